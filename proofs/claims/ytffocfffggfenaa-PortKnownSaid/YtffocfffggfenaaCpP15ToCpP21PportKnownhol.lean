/-
  The texts CpP15 to CpP21, one after the other.
-/
import Derived.Test.YtffocfffggfenaaCpP8ToCpP14PportKnownhol
import Derived.Test.YtffocfffggfenaaEng25ToEng34PportKnownhol
import Derived.Test.YtffocfffggfenaaGtPlainToPoPlain14PportKnownhol
import Derived.Test.YtffocfffggfenaaEng4ToEng11PportKnownhol
/-
  Walks through layer 38.
-/
namespace Go.Proofs.Cp
open Go Go.Eng Go.Gt Go.Proofs.Gt Go.Sw Go.Qu Go.Ch Go.Po
set_option maxRecDepth 4000
theorem pnext_at {w : World} {F : Know} (hF : ∀ a v, F a = some v → w.cell? a = some v) {q : Nat} {p : Ps} {B G : Option Addr} {m d k gk : Nat} {ms : List Qm} (hg : ∀ j, j < 18 → F ((⟨q, 0, none⟩ : Addr).add j) = (pev p B m d G k gk)[j]?) (hK : PsK F p B m d ms) (h8 : p.qs.length = 8) {x y : Int} (e : nextS p = (x, y)) : Pure Try.prog 82 [.pointer (some ⟨q, 0, none⟩)] w (.tuple [.int .i64 x, .int .i64 y].toArray) := by
  have h := pnext_ok hF hg hK h8
  rw [e] at h
  exact h
theorem times_gives {q3 q4 q5 gq M : Nat} {until_ : Int} {s0 : RS} (hM : ∀ k, k < M → goR until_ (stR s0 k) = true) (hE : goR until_ (stR s0 M) = false) : Gives3 Try.prog 100 [.pointer (some ⟨q3, 0, none⟩), .pointer (some ⟨q4, 0, none⟩), .pointer (some ⟨q5, 0, none⟩)] q4 (.cells [.slice s0.A s0.n s0.cp].toArray 78 (0, 0)) (yldR s0 M) (fun k F => F ⟨q3, 0, none⟩ = some (.pointer (some ⟨gq, 0, none⟩)) ∧ F ⟨q5, 0, none⟩ = some (.int .i64 until_) ∧ RK F s0 ∧ SeeP F gq (stR s0 k)) := by
  refine fn_gives3 Try.func100 rfl Try.ntmps100 rfl fun l J Jx w hR hJ F hS0 => ?_
  refine t_block ?_
  refine t_whileG3 (σ := Nat × RS) (fun s => []) (fun s => [(q4, .cells [.slice s.2.A s.2.n s.2.cp].toArray 78 (0, 0))]) (fun s => M - s.1) (fun s => fun w1 F1 => s.1 ≤ M ∧ s.2 = stR s0 s.1 ∧ (∃ ids, J s.1 ids w1) ∧ (fun k F => F ⟨q3, 0, none⟩ = some (.pointer (some ⟨gq, 0, none⟩)) ∧ F ⟨q5, 0, none⟩ = some (.int .i64 until_) ∧ RK F s0 ∧ SeeP F gq (stR s0 k)) s.1 F1) (0, s0) (env0 := [(0, _), (1, _), (2, _), (3, _)]) ⟨Nat.zero_le _, rfl, hJ, hS0⟩ trivial ⟨rfl, rfl, rfl, rfl, trivial⟩ (.refl _) ?_
  rintro ⟨kr, p, A, n, cp, ls, gs⟩ w1 F1 ⟨hsM, hst, hJ, h3, h5, hRK0, hSee⟩
  simp only at hsM hst hJ hSee
  have hRK : RK F1 (⟨p, A, n, cp, ls, gs⟩ : RS) := by rw [hst]; exact hRK0.all kr
  rw [← hst] at hSee
  obtain ⟨B, d, G, kk, gk, ms, hg, hK, h8⟩ := hSee.port
  have hnl := hRK.rows.len
  have hcap := hRK.cap
  have hrows := hRK.rows
  simp only at hnl hcap hrows
  have hgo : kr < M → goR until_ (⟨p, A, n, cp, ls, gs⟩ : RS) = true := fun h => by rw [hst]; exact hM kr h
  have hno : kr = M → goR until_ (⟨p, A, n, cp, ls, gs⟩ : RS) = false := fun h => by rw [hst, h]; exact hE
  obtain ⟨t, e, hne⟩ : ∃ t e, nextS p = (t, e) := ⟨_, _, rfl⟩
  have hsm := hRK.small
  simp only at hsm
  show T _ _ _ [(q4, Obj.cells [Value.slice A n cp].toArray 78 (0, 0))] _ _
  refine t_block ?_
  refine t_seq ?_
  refine b0 ?_
  refine o1 rfl (det_loadK t1_123 rfl h3) rfl rfl trivial ?_
  refine o1 rfl (det_call hb82 rfl rfl (fun w1 hs => pnext_at hs.know hg hK h8 hne)) rfl rfl trivial ?_
  refine o1 rfl (det_move rfl) rfl rfl trivial ?_
  refine o1 rfl (det_extract rfl rfl) rfl rfl trivial ?_
  refine o1 rfl (det_extract rfl rfl) rfl rfl trivial ?_
  refine o1 rfl (det_assign rfl) rfl rfl trivial ?_
  refine o1 rfl (det_assign rfl) rfl rfl trivial ?_
  refine be rfl ?_
  refine k_then ?_
  refine t_seq ?_
  refine t_seq ?_
  refine b0 ?_
  refine o1 rfl (det_load1 t1_78 rfl rfl (.head _) rfl) rfl rfl trivial ?_
  refine o1 rfl (det_lenS sl78 rfl) rfl rfl trivial ?_
  refine o1 rfl (det_gtr rfl rfl) rfl rfl trivial ?_
  refine o2P decide_eq_true_iff rfl (det_move rfl) rfl rfl trivial (fun hb => ?_) (fun hb => ?_)
  ·
    try simp only at hb
    obtain ⟨c0, r0, hcr⟩ : ∃ c r, ls = c :: r := by
      cases h : ls with
      | nil => rw [h] at hnl; simp at hnl; omega
      | cons c r => exact ⟨c, r, rfl⟩
    obtain ⟨A, rfl⟩ := hrows.some (i := 0) (by omega)
    have hc0 := hrows.cells (i := 0) (k := 0) rfl (by omega) (cmv_len _)
    simp only [hcr, List.getElem_cons_zero] at hc0
    refine o1 rfl (det_move rfl) rfl rfl ⟨_, rfl, rfl⟩ ?_
    refine o1 rfl (det_neq rfl rfl) rfl rfl ⟨_, rfl, rfl⟩ ?_
    refine o2P bne_iff_ne rfl (det_move rfl) rfl rfl ⟨_, rfl, rfl⟩ (fun hb => ?_) (fun hb => ?_)
    ·
      have hT := time_come (s := (⟨p, A, n, cp, ls, gs⟩ : RS)) hcr (by rw [show nextS (⟨p, A, n, cp, ls, gs⟩ : RS).p = (t, e) from hne]; exact (.inl hb))
      --note:come
      refine on rfl rfl rfl ⟨_, rfl, .inl rfl⟩ ?_
      refine on rfl rfl rfl ⟨_, rfl, .inl rfl⟩ ?_
      refine on rfl rfl rfl ⟨_, rfl, .inl rfl⟩ ?_
      refine on rfl rfl rfl ⟨_, rfl, .inl rfl⟩ ?_
      refine on rfl rfl rfl ⟨_, rfl, .inl rfl⟩ ?_
      refine on rfl rfl rfl ⟨_, rfl, .inl rfl⟩ ?_
      refine o1 rfl (det_pickT rfl rfl) rfl rfl ⟨_, rfl, rfl⟩ ?_
      refine o1 rfl (det_pickT rfl rfl) rfl rfl trivial ?_
      refine be rfl ?_
      refine k_then ?_
      refine t_condT rfl ?_
      refine b0 ?_
      refine o1 rfl (det_load1 t1_78 rfl rfl (.head _) rfl) rfl rfl trivial ?_
      first | (refine o1 rfl (det_indexAddr sl78 rfl rfl ?_) rfl rfl trivial ?_; (· (first | decide | omega)))
      refine o1 rfl (det_fieldAddr fld89_0 rfl) rfl rfl trivial ?_
      refine o1 rfl (det_loadK t1_3 rfl (hc0 0 (by decide))) rfl rfl trivial ?_
      refine o1 rfl (det_assign rfl) rfl rfl trivial ?_
      refine o1 rfl (det_assign rfl) rfl rfl trivial ?_
      refine be rfl ?_
      refine k_then ?_
      refine t_seq ?_
      refine t_seq ?_
      refine b0 ?_
      refine o1 rfl (det_move rfl) rfl rfl trivial ?_
      refine o1 rfl (det_neq rfl rfl) rfl rfl trivial ?_
      refine o2P bne_iff_ne rfl (det_move rfl) rfl rfl trivial (fun hb => ?_) (fun hb => ?_)
      ·
        have hkM : kr = M := by
          rcases Nat.lt_or_ge kr M with h | h
          · have := hgo h; unfold goR at this; rw [hT] at this; simp at this; omega
          · omega
        refine on rfl rfl rfl ⟨_, rfl, .inl rfl⟩ ?_
        refine on rfl rfl rfl ⟨_, rfl, .inl rfl⟩ ?_
        refine on rfl rfl rfl ⟨_, rfl, .inl rfl⟩ ?_
        refine o1 rfl (det_pickT rfl rfl) rfl rfl trivial ?_
        refine be rfl ?_
        refine k_then ?_
        refine t_condT rfl ?_
        refine t_ret (k_thenR (k_blkR (k_thenR (k_blkR (?_)))))
        refine ret_any (vs := []) rfl rfl trivial rfl (fun w1 hs => ?_)
        subst hkM
        obtain ⟨ids, hJ⟩ := hJ
        exact ⟨_, rfl, ids, .inl (by rw [yldR_len]; exact hR.st _ _ _ _ hJ hs.keep)⟩
      ·
        skip
        refine o1 rfl (det_move rfl) rfl rfl ⟨_, rfl, rfl⟩ ?_
        refine o1 rfl (det_loadK t1_3 rfl h5) rfl rfl ⟨_, rfl, rfl⟩ ?_
        refine o1 rfl (det_gtr rfl rfl) rfl rfl ⟨_, rfl, rfl⟩ ?_
        refine o1 rfl (det_pickF rfl rfl) rfl rfl trivial ?_
        refine be rfl ?_
        refine k_then ?_
        refine t_condP decide_eq_true_iff rfl (fun hb => ?_) (fun hb => ?_)
        ·
          have hkM : kr = M := by
            rcases Nat.lt_or_ge kr M with h | h
            · have := hgo h; unfold goR at this; rw [hT] at this; simp at this; omega
            · omega
          refine t_ret (k_thenR (k_blkR (k_thenR (k_blkR (?_)))))
          refine ret_any (vs := []) rfl rfl trivial rfl (fun w1 hs => ?_)
          subst hkM
          obtain ⟨ids, hJ⟩ := hJ
          exact ⟨_, rfl, ids, .inl (by rw [yldR_len]; exact hR.st _ _ _ _ hJ hs.keep)⟩
        ·
          have hkM : kr < M := by
            rcases Nat.lt_or_ge kr M with h | h
            · exact h
            · have := hno (by omega); unfold goR at this; rw [hT] at this; simp at this; omega
          obtain ⟨tt, htt⟩ : ∃ tt, tmR (⟨p, A, n, cp, ls, gs⟩ : RS) = tt := ⟨_, rfl⟩
          have htv : tt = c0.at_ := by rw [← htt]; unfold tmR; rw [hT]
          refine t_skip ?_
          refine k_then ?_
          refine t_seq ?_
          refine b0 ?_
          refine o1 rfl (det_assign rfl) rfl rfl trivial ?_
          refine be rfl ?_
          refine k_then ?_
          refine t_seq ?_
          refine t_block ?_
          refine t_whileM (σ := Nat) (fun i => [(7, .int .i64 (i : Int))]) (fun _ => _) (fun i => n - i) (fun i => i ≤ n ∧ ∀ j (h : j < ls.length), j < i → ls[j].at_ = tt) 0 (env0 := [(0, _), (1, _), (2, _), (3, _), (5, _)]) ⟨Nat.zero_le _, fun j h hj => absurd hj (Nat.not_lt_zero j)⟩ ⟨rfl, trivial⟩ ⟨rfl, rfl, rfl, rfl, rfl, trivial⟩ (.refl _) ?_
          rintro i ⟨hin, hIi⟩
          refine t_seq ?_
          refine t_seq ?_
          refine b0 ?_
          refine o1 rfl (det_move rfl) rfl rfl trivial ?_
          refine o1 rfl (det_load1 t1_78 rfl rfl (.head _) rfl) rfl rfl trivial ?_
          refine o1 rfl (det_lenS sl78 rfl) rfl rfl trivial ?_
          refine o1 rfl (det_lss rfl rfl) rfl rfl trivial ?_
          refine o2P decide_eq_true_iff rfl (det_move rfl) rfl rfl trivial (fun hb => ?_) (fun hb => ?_)
          ·
            try simp only at hb
            obtain ⟨A2, hA2⟩ := hrows.some (i := i) (by omega)
            first | subst hA2 | (injection hA2 with hA2; subst hA2)
            have hci := hrows.cells (i := (i : Int)) (k := i) (Int.toNat_natCast i) (by omega) (cmv_len _)
            refine o1 rfl (det_load1 t1_78 rfl rfl (.head _) rfl) rfl rfl ⟨_, rfl, rfl⟩ ?_
            refine o1 rfl (det_move rfl) rfl rfl ⟨_, rfl, rfl⟩ ?_
            first | (refine o1 rfl (det_indexAddr sl78 rfl rfl ?_) rfl rfl ⟨_, rfl, rfl⟩ ?_; (· (first | decide | omega)))
            refine o1 rfl (det_fieldAddr fld89_0 rfl) rfl rfl ⟨_, rfl, rfl⟩ ?_
            refine o1 rfl (det_loadK t1_3 rfl (hci 0 (by decide))) rfl rfl ⟨_, rfl, rfl⟩ ?_
            refine o1 rfl (det_move rfl) rfl rfl ⟨_, rfl, rfl⟩ ?_
            refine o1 rfl (det_eql rfl rfl) rfl rfl ⟨_, rfl, rfl⟩ ?_
            refine o1 rfl (det_pickT rfl rfl) rfl rfl trivial ?_
            refine be rfl ?_
            refine k_then ?_
            refine t_condP beq_iff_eq rfl (fun hb => ?_) (fun hb => ?_)
            ·
              try simp only at hb
              have hai : ls[i].at_ = tt := by rw [htv]; exact hb
              refine t_skip ?_
              refine k_then ?_
              refine t_block ?_
              refine b0 ?_
              refine o1 rfl (det_move rfl) rfl rfl trivial ?_
              first | (refine o1 rfl (det_addI rfl rfl ?_) rfl rfl trivial ?_; (· omega)) | refine o1 rfl (det_add rfl rfl) rfl rfl trivial ?_
              refine o1 rfl (det_assign rfl) rfl rfl trivial ?_
              refine be rfl ?_
              refine k_blk ?_
              refine k_then ?_
              refine loop_back (i + 1) ⟨by omega, fun j h hj => by
                  by_cases e : j = i
                  · subst e; exact hai
                  · exact hIi j h (by omega)⟩ (by omega) ⟨rfl, rfl, rfl, rfl, rfl, rfl, trivial⟩ (.refl _)
            ·
              try simp only at hb
              have hcnt : cntR (⟨p, A, n, cp, ls, gs⟩ : RS) = i := by
                unfold cntR
                rw [htt]
                exact cntL_is ls i (by omega) hIi (fun h => by rw [htv]; exact hb)
              subst hcnt
              refine t_exit ?_
              refine k_thenE ?_
              refine k_thenE ?_
              refine k_blkE ?_
              refine k_then ?_
              refine t_seq ?_
              refine t_seq ?_
              refine b0 ?_
              refine o1 rfl (det_move rfl) rfl rfl trivial ?_
              refine o1 rfl (det_move rfl) rfl rfl trivial ?_
              refine o1 rfl (det_load1 t1_78 rfl rfl (.head _) rfl) rfl rfl trivial ?_
              refine o1 rfl (det_move rfl) rfl rfl trivial ?_
              refine o1 rfl (det_move rfl) rfl rfl trivial ?_
              refine o1 rfl (det_slice3 sl78 rfl rfl rfl (by omega)) rfl rfl trivial ?_
              refine oY3 hR hJ (by rw [yldR_len]; exact hkM) nofun rfl rfl rfl rfl trivial (by simp only [yldR, List.getElem_map, List.getElem_range]; rw [← hst, htt, htv]; rfl) (fun w2 hJ2 F2 hS2 => ?_) (fun w2 hX => ?_)
              ·
                refine o1 rfl (det_not rfl) rfl rfl trivial ?_
                refine be rfl ?_
                refine k_then ?_
                refine t_condF rfl ?_
                refine t_skip ?_
                refine k_then ?_
                refine b0 ?_
                refine o1 rfl (det_load1 t1_78 rfl rfl (.head _) rfl) rfl rfl trivial ?_
                refine o1 rfl (det_move rfl) rfl rfl trivial ?_
                refine o1 rfl (det_sliceLo _ sl78 rfl rfl rfl (by omega) hcap) rfl rfl trivial ?_
                refine st1 nofun rfl t1_78 rfl rfl rfl .head rfl trivial rfl ?_
                refine be rfl ?_
                refine k_blk ?_
                refine k_then ?_
                refine loop_backG3 (kr + 1, stepR (⟨p, A, n, cp, ls, gs⟩ : RS)) ⟨hkM, by show stepR _ = stR s0 (kr + 1); rw [show stR s0 (kr + 1) = stepR (stR s0 kr) from rfl, ← hst], hJ2, hS2⟩ (by simp only; omega) ⟨rfl, rfl, rfl, rfl, trivial⟩ (.refl _)
              ·
                refine o1 rfl (det_not rfl) rfl rfl trivial ?_
                refine be rfl ?_
                refine k_then ?_
                refine t_condT rfl ?_
                refine t_ret (k_thenR (k_blkR (k_thenR (k_blkR (?_)))))
                refine ret_any (vs := []) rfl rfl trivial rfl (fun w1 hs => ?_)
                obtain ⟨ids, hX⟩ := hX
                exact ⟨_, rfl, ids, .inr (hR.stx _ _ _ hX hs.keep)⟩
          ·
            try simp only at hb
            have hcnt : cntR (⟨p, A, n, cp, ls, gs⟩ : RS) = i := by
              unfold cntR
              rw [htt]
              exact cntL_is ls i (by omega) hIi (fun h => absurd h (by show ¬ i < ls.length; omega))
            subst hcnt
            refine on rfl rfl rfl ⟨_, rfl, .inl rfl⟩ ?_
            refine on rfl rfl rfl ⟨_, rfl, .inl rfl⟩ ?_
            refine on rfl rfl rfl ⟨_, rfl, .inl rfl⟩ ?_
            refine on rfl rfl rfl ⟨_, rfl, .inl rfl⟩ ?_
            refine on rfl rfl rfl ⟨_, rfl, .inl rfl⟩ ?_
            refine on rfl rfl rfl ⟨_, rfl, .inl rfl⟩ ?_
            refine on rfl rfl rfl ⟨_, rfl, .inl rfl⟩ ?_
            refine o1 rfl (det_pickF rfl rfl) rfl rfl trivial ?_
            refine be rfl ?_
            refine k_then ?_
            refine t_condF rfl ?_
            refine t_exit ?_
            refine k_thenE ?_
            refine k_thenE ?_
            refine k_blkE ?_
            refine k_then ?_
            refine t_seq ?_
            refine t_seq ?_
            refine b0 ?_
            refine o1 rfl (det_move rfl) rfl rfl trivial ?_
            refine o1 rfl (det_move rfl) rfl rfl trivial ?_
            refine o1 rfl (det_load1 t1_78 rfl rfl (.head _) rfl) rfl rfl trivial ?_
            refine o1 rfl (det_move rfl) rfl rfl trivial ?_
            refine o1 rfl (det_move rfl) rfl rfl trivial ?_
            refine o1 rfl (det_slice3 sl78 rfl rfl rfl (by omega)) rfl rfl trivial ?_
            refine oY3 hR hJ (by rw [yldR_len]; exact hkM) nofun rfl rfl rfl rfl trivial (by simp only [yldR, List.getElem_map, List.getElem_range]; rw [← hst, htt, htv]; rfl) (fun w2 hJ2 F2 hS2 => ?_) (fun w2 hX => ?_)
            ·
              refine o1 rfl (det_not rfl) rfl rfl trivial ?_
              refine be rfl ?_
              refine k_then ?_
              refine t_condF rfl ?_
              refine t_skip ?_
              refine k_then ?_
              refine b0 ?_
              refine o1 rfl (det_load1 t1_78 rfl rfl (.head _) rfl) rfl rfl trivial ?_
              refine o1 rfl (det_move rfl) rfl rfl trivial ?_
              refine o1 rfl (det_sliceLo _ sl78 rfl rfl rfl (by omega) hcap) rfl rfl trivial ?_
              refine st1 nofun rfl t1_78 rfl rfl rfl .head rfl trivial rfl ?_
              refine be rfl ?_
              refine k_blk ?_
              refine k_then ?_
              refine loop_backG3 (kr + 1, stepR (⟨p, A, n, cp, ls, gs⟩ : RS)) ⟨hkM, by show stepR _ = stR s0 (kr + 1); rw [show stR s0 (kr + 1) = stepR (stR s0 kr) from rfl, ← hst], hJ2, hS2⟩ (by simp only; omega) ⟨rfl, rfl, rfl, rfl, trivial⟩ (.refl _)
            ·
              refine o1 rfl (det_not rfl) rfl rfl trivial ?_
              refine be rfl ?_
              refine k_then ?_
              refine t_condT rfl ?_
              refine t_ret (k_thenR (k_blkR (k_thenR (k_blkR (?_)))))
              refine ret_any (vs := []) rfl rfl trivial rfl (fun w1 hs => ?_)
              obtain ⟨ids, hX⟩ := hX
              exact ⟨_, rfl, ids, .inr (hR.stx _ _ _ hX hs.keep)⟩
    ·
      skip
      refine o1 rfl (det_load1 t1_78 rfl rfl (.head _) rfl) rfl rfl ⟨_, rfl, rfl⟩ ?_
      first | (refine o1 rfl (det_indexAddr sl78 rfl rfl ?_) rfl rfl ⟨_, rfl, rfl⟩ ?_; (· (first | decide | omega)))
      refine o1 rfl (det_fieldAddr fld89_0 rfl) rfl rfl ⟨_, rfl, rfl⟩ ?_
      refine o1 rfl (det_loadK t1_3 rfl (hc0 0 (by decide))) rfl rfl ⟨_, rfl, rfl⟩ ?_
      refine o1 rfl (det_move rfl) rfl rfl ⟨_, rfl, rfl⟩ ?_
      refine o1 rfl (det_lss rfl rfl) rfl rfl ⟨_, rfl, rfl⟩ ?_
      refine o1 rfl (det_pickF rfl rfl) rfl rfl ⟨_, rfl, rfl⟩ ?_
      refine o1 rfl (det_pickT rfl rfl) rfl rfl trivial ?_
      refine be rfl ?_
      refine k_then ?_
      refine t_condP decide_eq_true_iff rfl (fun hb => ?_) (fun hb => ?_)
      ·
        have hT := time_come (s := (⟨p, A, n, cp, ls, gs⟩ : RS)) hcr (by rw [show nextS (⟨p, A, n, cp, ls, gs⟩ : RS).p = (t, e) from hne]; exact (.inr hb))
        --note:come
        refine b0 ?_
        refine o1 rfl (det_load1 t1_78 rfl rfl (.head _) rfl) rfl rfl trivial ?_
        first | (refine o1 rfl (det_indexAddr sl78 rfl rfl ?_) rfl rfl trivial ?_; (· (first | decide | omega)))
        refine o1 rfl (det_fieldAddr fld89_0 rfl) rfl rfl trivial ?_
        refine o1 rfl (det_loadK t1_3 rfl (hc0 0 (by decide))) rfl rfl trivial ?_
        refine o1 rfl (det_assign rfl) rfl rfl trivial ?_
        refine o1 rfl (det_assign rfl) rfl rfl trivial ?_
        refine be rfl ?_
        refine k_then ?_
        refine t_seq ?_
        refine t_seq ?_
        refine b0 ?_
        refine o1 rfl (det_move rfl) rfl rfl trivial ?_
        refine o1 rfl (det_neq rfl rfl) rfl rfl trivial ?_
        refine o2P bne_iff_ne rfl (det_move rfl) rfl rfl trivial (fun hb => ?_) (fun hb => ?_)
        ·
          have hkM : kr = M := by
            rcases Nat.lt_or_ge kr M with h | h
            · have := hgo h; unfold goR at this; rw [hT] at this; simp at this; omega
            · omega
          refine on rfl rfl rfl ⟨_, rfl, .inl rfl⟩ ?_
          refine on rfl rfl rfl ⟨_, rfl, .inl rfl⟩ ?_
          refine on rfl rfl rfl ⟨_, rfl, .inl rfl⟩ ?_
          refine o1 rfl (det_pickT rfl rfl) rfl rfl trivial ?_
          refine be rfl ?_
          refine k_then ?_
          refine t_condT rfl ?_
          refine t_ret (k_thenR (k_blkR (k_thenR (k_blkR (?_)))))
          refine ret_any (vs := []) rfl rfl trivial rfl (fun w1 hs => ?_)
          subst hkM
          obtain ⟨ids, hJ⟩ := hJ
          exact ⟨_, rfl, ids, .inl (by rw [yldR_len]; exact hR.st _ _ _ _ hJ hs.keep)⟩
        ·
          skip
          refine o1 rfl (det_move rfl) rfl rfl ⟨_, rfl, rfl⟩ ?_
          refine o1 rfl (det_loadK t1_3 rfl h5) rfl rfl ⟨_, rfl, rfl⟩ ?_
          refine o1 rfl (det_gtr rfl rfl) rfl rfl ⟨_, rfl, rfl⟩ ?_
          refine o1 rfl (det_pickF rfl rfl) rfl rfl trivial ?_
          refine be rfl ?_
          refine k_then ?_
          refine t_condP decide_eq_true_iff rfl (fun hb => ?_) (fun hb => ?_)
          ·
            have hkM : kr = M := by
              rcases Nat.lt_or_ge kr M with h | h
              · have := hgo h; unfold goR at this; rw [hT] at this; simp at this; omega
              · omega
            refine t_ret (k_thenR (k_blkR (k_thenR (k_blkR (?_)))))
            refine ret_any (vs := []) rfl rfl trivial rfl (fun w1 hs => ?_)
            subst hkM
            obtain ⟨ids, hJ⟩ := hJ
            exact ⟨_, rfl, ids, .inl (by rw [yldR_len]; exact hR.st _ _ _ _ hJ hs.keep)⟩
          ·
            have hkM : kr < M := by
              rcases Nat.lt_or_ge kr M with h | h
              · exact h
              · have := hno (by omega); unfold goR at this; rw [hT] at this; simp at this; omega
            obtain ⟨tt, htt⟩ : ∃ tt, tmR (⟨p, A, n, cp, ls, gs⟩ : RS) = tt := ⟨_, rfl⟩
            have htv : tt = c0.at_ := by rw [← htt]; unfold tmR; rw [hT]
            refine t_skip ?_
            refine k_then ?_
            refine t_seq ?_
            refine b0 ?_
            refine o1 rfl (det_assign rfl) rfl rfl trivial ?_
            refine be rfl ?_
            refine k_then ?_
            refine t_seq ?_
            refine t_block ?_
            refine t_whileM (σ := Nat) (fun i => [(7, .int .i64 (i : Int))]) (fun _ => _) (fun i => n - i) (fun i => i ≤ n ∧ ∀ j (h : j < ls.length), j < i → ls[j].at_ = tt) 0 (env0 := [(0, _), (1, _), (2, _), (3, _), (5, _)]) ⟨Nat.zero_le _, fun j h hj => absurd hj (Nat.not_lt_zero j)⟩ ⟨rfl, trivial⟩ ⟨rfl, rfl, rfl, rfl, rfl, trivial⟩ (.refl _) ?_
            rintro i ⟨hin, hIi⟩
            refine t_seq ?_
            refine t_seq ?_
            refine b0 ?_
            refine o1 rfl (det_move rfl) rfl rfl trivial ?_
            refine o1 rfl (det_load1 t1_78 rfl rfl (.head _) rfl) rfl rfl trivial ?_
            refine o1 rfl (det_lenS sl78 rfl) rfl rfl trivial ?_
            refine o1 rfl (det_lss rfl rfl) rfl rfl trivial ?_
            refine o2P decide_eq_true_iff rfl (det_move rfl) rfl rfl trivial (fun hb => ?_) (fun hb => ?_)
            ·
              try simp only at hb
              obtain ⟨A2, hA2⟩ := hrows.some (i := i) (by omega)
              first | subst hA2 | (injection hA2 with hA2; subst hA2)
              have hci := hrows.cells (i := (i : Int)) (k := i) (Int.toNat_natCast i) (by omega) (cmv_len _)
              refine o1 rfl (det_load1 t1_78 rfl rfl (.head _) rfl) rfl rfl ⟨_, rfl, rfl⟩ ?_
              refine o1 rfl (det_move rfl) rfl rfl ⟨_, rfl, rfl⟩ ?_
              first | (refine o1 rfl (det_indexAddr sl78 rfl rfl ?_) rfl rfl ⟨_, rfl, rfl⟩ ?_; (· (first | decide | omega)))
              refine o1 rfl (det_fieldAddr fld89_0 rfl) rfl rfl ⟨_, rfl, rfl⟩ ?_
              refine o1 rfl (det_loadK t1_3 rfl (hci 0 (by decide))) rfl rfl ⟨_, rfl, rfl⟩ ?_
              refine o1 rfl (det_move rfl) rfl rfl ⟨_, rfl, rfl⟩ ?_
              refine o1 rfl (det_eql rfl rfl) rfl rfl ⟨_, rfl, rfl⟩ ?_
              refine o1 rfl (det_pickT rfl rfl) rfl rfl trivial ?_
              refine be rfl ?_
              refine k_then ?_
              refine t_condP beq_iff_eq rfl (fun hb => ?_) (fun hb => ?_)
              ·
                try simp only at hb
                have hai : ls[i].at_ = tt := by rw [htv]; exact hb
                refine t_skip ?_
                refine k_then ?_
                refine t_block ?_
                refine b0 ?_
                refine o1 rfl (det_move rfl) rfl rfl trivial ?_
                first | (refine o1 rfl (det_addI rfl rfl ?_) rfl rfl trivial ?_; (· omega)) | refine o1 rfl (det_add rfl rfl) rfl rfl trivial ?_
                refine o1 rfl (det_assign rfl) rfl rfl trivial ?_
                refine be rfl ?_
                refine k_blk ?_
                refine k_then ?_
                refine loop_back (i + 1) ⟨by omega, fun j h hj => by
                    by_cases e : j = i
                    · subst e; exact hai
                    · exact hIi j h (by omega)⟩ (by omega) ⟨rfl, rfl, rfl, rfl, rfl, rfl, trivial⟩ (.refl _)
              ·
                try simp only at hb
                have hcnt : cntR (⟨p, A, n, cp, ls, gs⟩ : RS) = i := by
                  unfold cntR
                  rw [htt]
                  exact cntL_is ls i (by omega) hIi (fun h => by rw [htv]; exact hb)
                subst hcnt
                refine t_exit ?_
                refine k_thenE ?_
                refine k_thenE ?_
                refine k_blkE ?_
                refine k_then ?_
                refine t_seq ?_
                refine t_seq ?_
                refine b0 ?_
                refine o1 rfl (det_move rfl) rfl rfl trivial ?_
                refine o1 rfl (det_move rfl) rfl rfl trivial ?_
                refine o1 rfl (det_load1 t1_78 rfl rfl (.head _) rfl) rfl rfl trivial ?_
                refine o1 rfl (det_move rfl) rfl rfl trivial ?_
                refine o1 rfl (det_move rfl) rfl rfl trivial ?_
                refine o1 rfl (det_slice3 sl78 rfl rfl rfl (by omega)) rfl rfl trivial ?_
                refine oY3 hR hJ (by rw [yldR_len]; exact hkM) nofun rfl rfl rfl rfl trivial (by simp only [yldR, List.getElem_map, List.getElem_range]; rw [← hst, htt, htv]; rfl) (fun w2 hJ2 F2 hS2 => ?_) (fun w2 hX => ?_)
                ·
                  refine o1 rfl (det_not rfl) rfl rfl trivial ?_
                  refine be rfl ?_
                  refine k_then ?_
                  refine t_condF rfl ?_
                  refine t_skip ?_
                  refine k_then ?_
                  refine b0 ?_
                  refine o1 rfl (det_load1 t1_78 rfl rfl (.head _) rfl) rfl rfl trivial ?_
                  refine o1 rfl (det_move rfl) rfl rfl trivial ?_
                  refine o1 rfl (det_sliceLo _ sl78 rfl rfl rfl (by omega) hcap) rfl rfl trivial ?_
                  refine st1 nofun rfl t1_78 rfl rfl rfl .head rfl trivial rfl ?_
                  refine be rfl ?_
                  refine k_blk ?_
                  refine k_then ?_
                  refine loop_backG3 (kr + 1, stepR (⟨p, A, n, cp, ls, gs⟩ : RS)) ⟨hkM, by show stepR _ = stR s0 (kr + 1); rw [show stR s0 (kr + 1) = stepR (stR s0 kr) from rfl, ← hst], hJ2, hS2⟩ (by simp only; omega) ⟨rfl, rfl, rfl, rfl, trivial⟩ (.refl _)
                ·
                  refine o1 rfl (det_not rfl) rfl rfl trivial ?_
                  refine be rfl ?_
                  refine k_then ?_
                  refine t_condT rfl ?_
                  refine t_ret (k_thenR (k_blkR (k_thenR (k_blkR (?_)))))
                  refine ret_any (vs := []) rfl rfl trivial rfl (fun w1 hs => ?_)
                  obtain ⟨ids, hX⟩ := hX
                  exact ⟨_, rfl, ids, .inr (hR.stx _ _ _ hX hs.keep)⟩
            ·
              try simp only at hb
              have hcnt : cntR (⟨p, A, n, cp, ls, gs⟩ : RS) = i := by
                unfold cntR
                rw [htt]
                exact cntL_is ls i (by omega) hIi (fun h => absurd h (by show ¬ i < ls.length; omega))
              subst hcnt
              refine on rfl rfl rfl ⟨_, rfl, .inl rfl⟩ ?_
              refine on rfl rfl rfl ⟨_, rfl, .inl rfl⟩ ?_
              refine on rfl rfl rfl ⟨_, rfl, .inl rfl⟩ ?_
              refine on rfl rfl rfl ⟨_, rfl, .inl rfl⟩ ?_
              refine on rfl rfl rfl ⟨_, rfl, .inl rfl⟩ ?_
              refine on rfl rfl rfl ⟨_, rfl, .inl rfl⟩ ?_
              refine on rfl rfl rfl ⟨_, rfl, .inl rfl⟩ ?_
              refine o1 rfl (det_pickF rfl rfl) rfl rfl trivial ?_
              refine be rfl ?_
              refine k_then ?_
              refine t_condF rfl ?_
              refine t_exit ?_
              refine k_thenE ?_
              refine k_thenE ?_
              refine k_blkE ?_
              refine k_then ?_
              refine t_seq ?_
              refine t_seq ?_
              refine b0 ?_
              refine o1 rfl (det_move rfl) rfl rfl trivial ?_
              refine o1 rfl (det_move rfl) rfl rfl trivial ?_
              refine o1 rfl (det_load1 t1_78 rfl rfl (.head _) rfl) rfl rfl trivial ?_
              refine o1 rfl (det_move rfl) rfl rfl trivial ?_
              refine o1 rfl (det_move rfl) rfl rfl trivial ?_
              refine o1 rfl (det_slice3 sl78 rfl rfl rfl (by omega)) rfl rfl trivial ?_
              refine oY3 hR hJ (by rw [yldR_len]; exact hkM) nofun rfl rfl rfl rfl trivial (by simp only [yldR, List.getElem_map, List.getElem_range]; rw [← hst, htt, htv]; rfl) (fun w2 hJ2 F2 hS2 => ?_) (fun w2 hX => ?_)
              ·
                refine o1 rfl (det_not rfl) rfl rfl trivial ?_
                refine be rfl ?_
                refine k_then ?_
                refine t_condF rfl ?_
                refine t_skip ?_
                refine k_then ?_
                refine b0 ?_
                refine o1 rfl (det_load1 t1_78 rfl rfl (.head _) rfl) rfl rfl trivial ?_
                refine o1 rfl (det_move rfl) rfl rfl trivial ?_
                refine o1 rfl (det_sliceLo _ sl78 rfl rfl rfl (by omega) hcap) rfl rfl trivial ?_
                refine st1 nofun rfl t1_78 rfl rfl rfl .head rfl trivial rfl ?_
                refine be rfl ?_
                refine k_blk ?_
                refine k_then ?_
                refine loop_backG3 (kr + 1, stepR (⟨p, A, n, cp, ls, gs⟩ : RS)) ⟨hkM, by show stepR _ = stR s0 (kr + 1); rw [show stR s0 (kr + 1) = stepR (stR s0 kr) from rfl, ← hst], hJ2, hS2⟩ (by simp only; omega) ⟨rfl, rfl, rfl, rfl, trivial⟩ (.refl _)
              ·
                refine o1 rfl (det_not rfl) rfl rfl trivial ?_
                refine be rfl ?_
                refine k_then ?_
                refine t_condT rfl ?_
                refine t_ret (k_thenR (k_blkR (k_thenR (k_blkR (?_)))))
                refine ret_any (vs := []) rfl rfl trivial rfl (fun w1 hs => ?_)
                obtain ⟨ids, hX⟩ := hX
                exact ⟨_, rfl, ids, .inr (hR.stx _ _ _ hX hs.keep)⟩
      ·
        have hT := time_next (s := (⟨p, A, n, cp, ls, gs⟩ : RS)) hcr (by rw [show nextS (⟨p, A, n, cp, ls, gs⟩ : RS).p = (t, e) from hne]; simp only; grind)
        rw [show nextS (⟨p, A, n, cp, ls, gs⟩ : RS).p = (t, e) from hne] at hT
        refine t_skip ?_
        refine k_then ?_
        refine t_seq ?_
        refine t_seq ?_
        refine b0 ?_
        refine o1 rfl (det_move rfl) rfl rfl trivial ?_
        refine o1 rfl (det_neq rfl rfl) rfl rfl trivial ?_
        refine o2P bne_iff_ne rfl (det_move rfl) rfl rfl trivial (fun hb => ?_) (fun hb => ?_)
        ·
          have hkM : kr = M := by
            rcases Nat.lt_or_ge kr M with h | h
            · have := hgo h; unfold goR at this; rw [hT] at this; simp at this; omega
            · omega
          refine on rfl rfl rfl ⟨_, rfl, .inl rfl⟩ ?_
          refine on rfl rfl rfl ⟨_, rfl, .inl rfl⟩ ?_
          refine on rfl rfl rfl ⟨_, rfl, .inl rfl⟩ ?_
          refine o1 rfl (det_pickT rfl rfl) rfl rfl trivial ?_
          refine be rfl ?_
          refine k_then ?_
          refine t_condT rfl ?_
          refine t_ret (k_thenR (k_blkR (k_thenR (k_blkR (?_)))))
          refine ret_any (vs := []) rfl rfl trivial rfl (fun w1 hs => ?_)
          subst hkM
          obtain ⟨ids, hJ⟩ := hJ
          exact ⟨_, rfl, ids, .inl (by rw [yldR_len]; exact hR.st _ _ _ _ hJ hs.keep)⟩
        ·
          skip
          refine o1 rfl (det_move rfl) rfl rfl ⟨_, rfl, rfl⟩ ?_
          refine o1 rfl (det_loadK t1_3 rfl h5) rfl rfl ⟨_, rfl, rfl⟩ ?_
          refine o1 rfl (det_gtr rfl rfl) rfl rfl ⟨_, rfl, rfl⟩ ?_
          refine o1 rfl (det_pickF rfl rfl) rfl rfl trivial ?_
          refine be rfl ?_
          refine k_then ?_
          refine t_condP decide_eq_true_iff rfl (fun hb => ?_) (fun hb => ?_)
          ·
            have hkM : kr = M := by
              rcases Nat.lt_or_ge kr M with h | h
              · have := hgo h; unfold goR at this; rw [hT] at this; simp at this; omega
              · omega
            refine t_ret (k_thenR (k_blkR (k_thenR (k_blkR (?_)))))
            refine ret_any (vs := []) rfl rfl trivial rfl (fun w1 hs => ?_)
            subst hkM
            obtain ⟨ids, hJ⟩ := hJ
            exact ⟨_, rfl, ids, .inl (by rw [yldR_len]; exact hR.st _ _ _ _ hJ hs.keep)⟩
          ·
            have hkM : kr < M := by
              rcases Nat.lt_or_ge kr M with h | h
              · exact h
              · have := hno (by omega); unfold goR at this; rw [hT] at this; simp at this; omega
            obtain ⟨tt, htt⟩ : ∃ tt, tmR (⟨p, A, n, cp, ls, gs⟩ : RS) = tt := ⟨_, rfl⟩
            have htv : tt = t := by rw [← htt]; unfold tmR; rw [hT]
            refine t_skip ?_
            refine k_then ?_
            refine t_seq ?_
            refine b0 ?_
            refine o1 rfl (det_assign rfl) rfl rfl trivial ?_
            refine be rfl ?_
            refine k_then ?_
            refine t_seq ?_
            refine t_block ?_
            refine t_whileM (σ := Nat) (fun i => [(7, .int .i64 (i : Int))]) (fun _ => _) (fun i => n - i) (fun i => i ≤ n ∧ ∀ j (h : j < ls.length), j < i → ls[j].at_ = tt) 0 (env0 := [(0, _), (1, _), (2, _), (3, _), (5, _)]) ⟨Nat.zero_le _, fun j h hj => absurd hj (Nat.not_lt_zero j)⟩ ⟨rfl, trivial⟩ ⟨rfl, rfl, rfl, rfl, rfl, trivial⟩ (.refl _) ?_
            rintro i ⟨hin, hIi⟩
            refine t_seq ?_
            refine t_seq ?_
            refine b0 ?_
            refine o1 rfl (det_move rfl) rfl rfl trivial ?_
            refine o1 rfl (det_load1 t1_78 rfl rfl (.head _) rfl) rfl rfl trivial ?_
            refine o1 rfl (det_lenS sl78 rfl) rfl rfl trivial ?_
            refine o1 rfl (det_lss rfl rfl) rfl rfl trivial ?_
            refine o2P decide_eq_true_iff rfl (det_move rfl) rfl rfl trivial (fun hb => ?_) (fun hb => ?_)
            ·
              try simp only at hb
              obtain ⟨A2, hA2⟩ := hrows.some (i := i) (by omega)
              first | subst hA2 | (injection hA2 with hA2; subst hA2)
              have hci := hrows.cells (i := (i : Int)) (k := i) (Int.toNat_natCast i) (by omega) (cmv_len _)
              refine o1 rfl (det_load1 t1_78 rfl rfl (.head _) rfl) rfl rfl ⟨_, rfl, rfl⟩ ?_
              refine o1 rfl (det_move rfl) rfl rfl ⟨_, rfl, rfl⟩ ?_
              first | (refine o1 rfl (det_indexAddr sl78 rfl rfl ?_) rfl rfl ⟨_, rfl, rfl⟩ ?_; (· (first | decide | omega)))
              refine o1 rfl (det_fieldAddr fld89_0 rfl) rfl rfl ⟨_, rfl, rfl⟩ ?_
              refine o1 rfl (det_loadK t1_3 rfl (hci 0 (by decide))) rfl rfl ⟨_, rfl, rfl⟩ ?_
              refine o1 rfl (det_move rfl) rfl rfl ⟨_, rfl, rfl⟩ ?_
              refine o1 rfl (det_eql rfl rfl) rfl rfl ⟨_, rfl, rfl⟩ ?_
              refine o1 rfl (det_pickT rfl rfl) rfl rfl trivial ?_
              refine be rfl ?_
              refine k_then ?_
              refine t_condP beq_iff_eq rfl (fun hb => ?_) (fun hb => ?_)
              ·
                try simp only at hb
                have hai : ls[i].at_ = tt := by rw [htv]; exact hb
                refine t_skip ?_
                refine k_then ?_
                refine t_block ?_
                refine b0 ?_
                refine o1 rfl (det_move rfl) rfl rfl trivial ?_
                first | (refine o1 rfl (det_addI rfl rfl ?_) rfl rfl trivial ?_; (· omega)) | refine o1 rfl (det_add rfl rfl) rfl rfl trivial ?_
                refine o1 rfl (det_assign rfl) rfl rfl trivial ?_
                refine be rfl ?_
                refine k_blk ?_
                refine k_then ?_
                refine loop_back (i + 1) ⟨by omega, fun j h hj => by
                    by_cases e : j = i
                    · subst e; exact hai
                    · exact hIi j h (by omega)⟩ (by omega) ⟨rfl, rfl, rfl, rfl, rfl, rfl, trivial⟩ (.refl _)
              ·
                try simp only at hb
                have hcnt : cntR (⟨p, A, n, cp, ls, gs⟩ : RS) = i := by
                  unfold cntR
                  rw [htt]
                  exact cntL_is ls i (by omega) hIi (fun h => by rw [htv]; exact hb)
                subst hcnt
                refine t_exit ?_
                refine k_thenE ?_
                refine k_thenE ?_
                refine k_blkE ?_
                refine k_then ?_
                refine t_seq ?_
                refine t_seq ?_
                refine b0 ?_
                refine o1 rfl (det_move rfl) rfl rfl trivial ?_
                refine o1 rfl (det_move rfl) rfl rfl trivial ?_
                refine o1 rfl (det_load1 t1_78 rfl rfl (.head _) rfl) rfl rfl trivial ?_
                refine o1 rfl (det_move rfl) rfl rfl trivial ?_
                refine o1 rfl (det_move rfl) rfl rfl trivial ?_
                refine o1 rfl (det_slice3 sl78 rfl rfl rfl (by omega)) rfl rfl trivial ?_
                refine oY3 hR hJ (by rw [yldR_len]; exact hkM) nofun rfl rfl rfl rfl trivial (by simp only [yldR, List.getElem_map, List.getElem_range]; rw [← hst, htt, htv]; rfl) (fun w2 hJ2 F2 hS2 => ?_) (fun w2 hX => ?_)
                ·
                  refine o1 rfl (det_not rfl) rfl rfl trivial ?_
                  refine be rfl ?_
                  refine k_then ?_
                  refine t_condF rfl ?_
                  refine t_skip ?_
                  refine k_then ?_
                  refine b0 ?_
                  refine o1 rfl (det_load1 t1_78 rfl rfl (.head _) rfl) rfl rfl trivial ?_
                  refine o1 rfl (det_move rfl) rfl rfl trivial ?_
                  refine o1 rfl (det_sliceLo _ sl78 rfl rfl rfl (by omega) hcap) rfl rfl trivial ?_
                  refine st1 nofun rfl t1_78 rfl rfl rfl .head rfl trivial rfl ?_
                  refine be rfl ?_
                  refine k_blk ?_
                  refine k_then ?_
                  refine loop_backG3 (kr + 1, stepR (⟨p, A, n, cp, ls, gs⟩ : RS)) ⟨hkM, by show stepR _ = stR s0 (kr + 1); rw [show stR s0 (kr + 1) = stepR (stR s0 kr) from rfl, ← hst], hJ2, hS2⟩ (by simp only; omega) ⟨rfl, rfl, rfl, rfl, trivial⟩ (.refl _)
                ·
                  refine o1 rfl (det_not rfl) rfl rfl trivial ?_
                  refine be rfl ?_
                  refine k_then ?_
                  refine t_condT rfl ?_
                  refine t_ret (k_thenR (k_blkR (k_thenR (k_blkR (?_)))))
                  refine ret_any (vs := []) rfl rfl trivial rfl (fun w1 hs => ?_)
                  obtain ⟨ids, hX⟩ := hX
                  exact ⟨_, rfl, ids, .inr (hR.stx _ _ _ hX hs.keep)⟩
            ·
              try simp only at hb
              have hcnt : cntR (⟨p, A, n, cp, ls, gs⟩ : RS) = i := by
                unfold cntR
                rw [htt]
                exact cntL_is ls i (by omega) hIi (fun h => absurd h (by show ¬ i < ls.length; omega))
              subst hcnt
              refine on rfl rfl rfl ⟨_, rfl, .inl rfl⟩ ?_
              refine on rfl rfl rfl ⟨_, rfl, .inl rfl⟩ ?_
              refine on rfl rfl rfl ⟨_, rfl, .inl rfl⟩ ?_
              refine on rfl rfl rfl ⟨_, rfl, .inl rfl⟩ ?_
              refine on rfl rfl rfl ⟨_, rfl, .inl rfl⟩ ?_
              refine on rfl rfl rfl ⟨_, rfl, .inl rfl⟩ ?_
              refine on rfl rfl rfl ⟨_, rfl, .inl rfl⟩ ?_
              refine o1 rfl (det_pickF rfl rfl) rfl rfl trivial ?_
              refine be rfl ?_
              refine k_then ?_
              refine t_condF rfl ?_
              refine t_exit ?_
              refine k_thenE ?_
              refine k_thenE ?_
              refine k_blkE ?_
              refine k_then ?_
              refine t_seq ?_
              refine t_seq ?_
              refine b0 ?_
              refine o1 rfl (det_move rfl) rfl rfl trivial ?_
              refine o1 rfl (det_move rfl) rfl rfl trivial ?_
              refine o1 rfl (det_load1 t1_78 rfl rfl (.head _) rfl) rfl rfl trivial ?_
              refine o1 rfl (det_move rfl) rfl rfl trivial ?_
              refine o1 rfl (det_move rfl) rfl rfl trivial ?_
              refine o1 rfl (det_slice3 sl78 rfl rfl rfl (by omega)) rfl rfl trivial ?_
              refine oY3 hR hJ (by rw [yldR_len]; exact hkM) nofun rfl rfl rfl rfl trivial (by simp only [yldR, List.getElem_map, List.getElem_range]; rw [← hst, htt, htv]; rfl) (fun w2 hJ2 F2 hS2 => ?_) (fun w2 hX => ?_)
              ·
                refine o1 rfl (det_not rfl) rfl rfl trivial ?_
                refine be rfl ?_
                refine k_then ?_
                refine t_condF rfl ?_
                refine t_skip ?_
                refine k_then ?_
                refine b0 ?_
                refine o1 rfl (det_load1 t1_78 rfl rfl (.head _) rfl) rfl rfl trivial ?_
                refine o1 rfl (det_move rfl) rfl rfl trivial ?_
                refine o1 rfl (det_sliceLo _ sl78 rfl rfl rfl (by omega) hcap) rfl rfl trivial ?_
                refine st1 nofun rfl t1_78 rfl rfl rfl .head rfl trivial rfl ?_
                refine be rfl ?_
                refine k_blk ?_
                refine k_then ?_
                refine loop_backG3 (kr + 1, stepR (⟨p, A, n, cp, ls, gs⟩ : RS)) ⟨hkM, by show stepR _ = stR s0 (kr + 1); rw [show stR s0 (kr + 1) = stepR (stR s0 kr) from rfl, ← hst], hJ2, hS2⟩ (by simp only; omega) ⟨rfl, rfl, rfl, rfl, trivial⟩ (.refl _)
              ·
                refine o1 rfl (det_not rfl) rfl rfl trivial ?_
                refine be rfl ?_
                refine k_then ?_
                refine t_condT rfl ?_
                refine t_ret (k_thenR (k_blkR (k_thenR (k_blkR (?_)))))
                refine ret_any (vs := []) rfl rfl trivial rfl (fun w1 hs => ?_)
                obtain ⟨ids, hX⟩ := hX
                exact ⟨_, rfl, ids, .inr (hR.stx _ _ _ hX hs.keep)⟩
  ·
    try simp only at hb
    have hnil : ls = [] := List.eq_nil_of_length_eq_zero (by omega)
    have hT := time_nil (s := (⟨p, A, n, cp, ls, gs⟩ : RS)) hnil
    rw [show nextS (⟨p, A, n, cp, ls, gs⟩ : RS).p = (t, e) from hne] at hT
    --note:nil
    refine on rfl rfl rfl ⟨_, rfl, .inl rfl⟩ ?_
    refine on rfl rfl rfl ⟨_, rfl, .inl rfl⟩ ?_
    refine on rfl rfl rfl ⟨_, rfl, .inl rfl⟩ ?_
    refine on rfl rfl rfl ⟨_, rfl, .inr rfl⟩ ?_
    refine on rfl rfl rfl ⟨_, rfl, .inr rfl⟩ ?_
    refine on rfl rfl rfl ⟨_, rfl, .inr rfl⟩ ?_
    refine on rfl rfl rfl ⟨_, rfl, .inr rfl⟩ ?_
    refine on rfl rfl rfl ⟨_, rfl, .inr rfl⟩ ?_
    refine on rfl rfl rfl ⟨_, rfl, .inr rfl⟩ ?_
    refine on rfl rfl rfl ⟨_, rfl, .inl rfl⟩ ?_
    refine o1 rfl (det_pickF rfl rfl) rfl rfl trivial ?_
    refine be rfl ?_
    refine k_then ?_
    refine t_condF rfl ?_
    refine t_skip ?_
    refine k_then ?_
    refine t_seq ?_
    refine t_seq ?_
    refine b0 ?_
    refine o1 rfl (det_move rfl) rfl rfl trivial ?_
    refine o1 rfl (det_neq rfl rfl) rfl rfl trivial ?_
    refine o2P bne_iff_ne rfl (det_move rfl) rfl rfl trivial (fun hb => ?_) (fun hb => ?_)
    ·
      have hkM : kr = M := by
        rcases Nat.lt_or_ge kr M with h | h
        · have := hgo h; unfold goR at this; rw [hT] at this; simp at this; omega
        · omega
      refine on rfl rfl rfl ⟨_, rfl, .inl rfl⟩ ?_
      refine on rfl rfl rfl ⟨_, rfl, .inl rfl⟩ ?_
      refine on rfl rfl rfl ⟨_, rfl, .inl rfl⟩ ?_
      refine o1 rfl (det_pickT rfl rfl) rfl rfl trivial ?_
      refine be rfl ?_
      refine k_then ?_
      refine t_condT rfl ?_
      refine t_ret (k_thenR (k_blkR (k_thenR (k_blkR (?_)))))
      refine ret_any (vs := []) rfl rfl trivial rfl (fun w1 hs => ?_)
      subst hkM
      obtain ⟨ids, hJ⟩ := hJ
      exact ⟨_, rfl, ids, .inl (by rw [yldR_len]; exact hR.st _ _ _ _ hJ hs.keep)⟩
    ·
      skip
      refine o1 rfl (det_move rfl) rfl rfl ⟨_, rfl, rfl⟩ ?_
      refine o1 rfl (det_loadK t1_3 rfl h5) rfl rfl ⟨_, rfl, rfl⟩ ?_
      refine o1 rfl (det_gtr rfl rfl) rfl rfl ⟨_, rfl, rfl⟩ ?_
      refine o1 rfl (det_pickF rfl rfl) rfl rfl trivial ?_
      refine be rfl ?_
      refine k_then ?_
      refine t_condP decide_eq_true_iff rfl (fun hb => ?_) (fun hb => ?_)
      ·
        have hkM : kr = M := by
          rcases Nat.lt_or_ge kr M with h | h
          · have := hgo h; unfold goR at this; rw [hT] at this; simp at this; omega
          · omega
        refine t_ret (k_thenR (k_blkR (k_thenR (k_blkR (?_)))))
        refine ret_any (vs := []) rfl rfl trivial rfl (fun w1 hs => ?_)
        subst hkM
        obtain ⟨ids, hJ⟩ := hJ
        exact ⟨_, rfl, ids, .inl (by rw [yldR_len]; exact hR.st _ _ _ _ hJ hs.keep)⟩
      ·
        have hkM : kr < M := by
          rcases Nat.lt_or_ge kr M with h | h
          · exact h
          · have := hno (by omega); unfold goR at this; rw [hT] at this; simp at this; omega
        obtain ⟨tt, htt⟩ : ∃ tt, tmR (⟨p, A, n, cp, ls, gs⟩ : RS) = tt := ⟨_, rfl⟩
        have htv : tt = t := by rw [← htt]; unfold tmR; rw [hT]
        refine t_skip ?_
        refine k_then ?_
        refine t_seq ?_
        refine b0 ?_
        refine o1 rfl (det_assign rfl) rfl rfl trivial ?_
        refine be rfl ?_
        refine k_then ?_
        refine t_seq ?_
        refine t_block ?_
        refine t_whileM (σ := Nat) (fun i => [(7, .int .i64 (i : Int))]) (fun _ => _) (fun i => n - i) (fun i => i ≤ n ∧ ∀ j (h : j < ls.length), j < i → ls[j].at_ = tt) 0 (env0 := [(0, _), (1, _), (2, _), (3, _), (5, _)]) ⟨Nat.zero_le _, fun j h hj => absurd hj (Nat.not_lt_zero j)⟩ ⟨rfl, trivial⟩ ⟨rfl, rfl, rfl, rfl, rfl, trivial⟩ (.refl _) ?_
        rintro i ⟨hin, hIi⟩
        refine t_seq ?_
        refine t_seq ?_
        refine b0 ?_
        refine o1 rfl (det_move rfl) rfl rfl trivial ?_
        refine o1 rfl (det_load1 t1_78 rfl rfl (.head _) rfl) rfl rfl trivial ?_
        refine o1 rfl (det_lenS sl78 rfl) rfl rfl trivial ?_
        refine o1 rfl (det_lss rfl rfl) rfl rfl trivial ?_
        refine o2P decide_eq_true_iff rfl (det_move rfl) rfl rfl trivial (fun hb => ?_) (fun hb => ?_)
        ·
          exfalso
          rw [hnil] at hnl
          simp at hnl hb
          omega
          --end
        ·
          try simp only at hb
          have hcnt : cntR (⟨p, A, n, cp, ls, gs⟩ : RS) = i := by
            unfold cntR
            rw [htt]
            exact cntL_is ls i (by omega) hIi (fun h => absurd h (by show ¬ i < ls.length; omega))
          subst hcnt
          refine on rfl rfl rfl ⟨_, rfl, .inl rfl⟩ ?_
          refine on rfl rfl rfl ⟨_, rfl, .inl rfl⟩ ?_
          refine on rfl rfl rfl ⟨_, rfl, .inl rfl⟩ ?_
          refine on rfl rfl rfl ⟨_, rfl, .inl rfl⟩ ?_
          refine on rfl rfl rfl ⟨_, rfl, .inl rfl⟩ ?_
          refine on rfl rfl rfl ⟨_, rfl, .inl rfl⟩ ?_
          refine on rfl rfl rfl ⟨_, rfl, .inl rfl⟩ ?_
          refine o1 rfl (det_pickF rfl rfl) rfl rfl trivial ?_
          refine be rfl ?_
          refine k_then ?_
          refine t_condF rfl ?_
          refine t_exit ?_
          refine k_thenE ?_
          refine k_thenE ?_
          refine k_blkE ?_
          refine k_then ?_
          refine t_seq ?_
          refine t_seq ?_
          refine b0 ?_
          refine o1 rfl (det_move rfl) rfl rfl trivial ?_
          refine o1 rfl (det_move rfl) rfl rfl trivial ?_
          refine o1 rfl (det_load1 t1_78 rfl rfl (.head _) rfl) rfl rfl trivial ?_
          refine o1 rfl (det_move rfl) rfl rfl trivial ?_
          refine o1 rfl (det_move rfl) rfl rfl trivial ?_
          refine o1 rfl (det_slice3 sl78 rfl rfl rfl (by omega)) rfl rfl trivial ?_
          refine oY3 hR hJ (by rw [yldR_len]; exact hkM) nofun rfl rfl rfl rfl trivial (by simp only [yldR, List.getElem_map, List.getElem_range]; rw [← hst, htt, htv]; rfl) (fun w2 hJ2 F2 hS2 => ?_) (fun w2 hX => ?_)
          ·
            refine o1 rfl (det_not rfl) rfl rfl trivial ?_
            refine be rfl ?_
            refine k_then ?_
            refine t_condF rfl ?_
            refine t_skip ?_
            refine k_then ?_
            refine b0 ?_
            refine o1 rfl (det_load1 t1_78 rfl rfl (.head _) rfl) rfl rfl trivial ?_
            refine o1 rfl (det_move rfl) rfl rfl trivial ?_
            refine o1 rfl (det_sliceLo _ sl78 rfl rfl rfl (by omega) hcap) rfl rfl trivial ?_
            refine st1 nofun rfl t1_78 rfl rfl rfl .head rfl trivial rfl ?_
            refine be rfl ?_
            refine k_blk ?_
            refine k_then ?_
            refine loop_backG3 (kr + 1, stepR (⟨p, A, n, cp, ls, gs⟩ : RS)) ⟨hkM, by show stepR _ = stR s0 (kr + 1); rw [show stR s0 (kr + 1) = stepR (stR s0 kr) from rfl, ← hst], hJ2, hS2⟩ (by simp only; omega) ⟨rfl, rfl, rfl, rfl, trivial⟩ (.refl _)
          ·
            refine o1 rfl (det_not rfl) rfl rfl trivial ?_
            refine be rfl ?_
            refine k_then ?_
            refine t_condT rfl ?_
            refine t_ret (k_thenR (k_blkR (k_thenR (k_blkR (?_)))))
            refine ret_any (vs := []) rfl rfl trivial rfl (fun w1 hs => ?_)
            obtain ⟨ids, hX⟩ := hX
            exact ⟨_, rfl, ids, .inr (hR.stx _ _ _ hX hs.keep)⟩
end Go.Proofs.Cp

/-
  Walks through layer 38.
-/
namespace Go.Proofs.Cp
open Go Go.Eng Go.Gt Go.Proofs.Gt Go.Sw Go.Qu Go.Ch Go.Po
set_option maxRecDepth 4000
theorem ptimes_ok {w : World} {F : Know} (hF : ∀ a v, F a = some v → w.cell? a = some v) {gq n c : Nat} {A : Option Addr} {until_ : Int} (haway : ∀ a v, F a = some v → a.block ∉ idsO []) (hnd : (idsO []).Nodup) (hown : ∀ x ∈ ([] : Own), w.heap[x.1]? = some x.2) : CallsW Try.prog 78 [.pointer (some ⟨gq, 0, none⟩), .slice A n c, .int .i64 until_] w F ([]) (fun v cp1 F2 => ∃ q3 q4 q5 : Nat, v = .func (.func 100) #[] [.pointer (some ⟨q3, 0, none⟩), .pointer (some ⟨q4, 0, none⟩), .pointer (some ⟨q5, 0, none⟩)].toArray ∧ cp1 = [(q4, .cells [.slice A n c].toArray 78 (0, 0))] ∧ F2 ⟨q3, 0, none⟩ = some (.pointer (some ⟨gq, 0, none⟩)) ∧ F2 ⟨q5, 0, none⟩ = some (.int .i64 until_)) := by
  refine fn_w (F := F) Try.func78 rfl Try.ntmps78 rfl hF haway hnd hown ?_
  refine t_seq ?_
  refine b0 ?_
  refine om1 rfl (new_box1 rfl rfl) rfl rfl trivial (fun p3 => ?_)
  refine om1 rfl (new_box1 rfl rfl) rfl rfl trivial (fun p4 => ?_)
  refine om1 rfl (new_box1 rfl rfl) rfl rfl trivial (fun p5 => ?_)
  refine o1 rfl (det_assign rfl) rfl rfl trivial ?_
  refine be rfl ?_
  refine k_then ?_
  refine t_seq ?_
  refine b0 ?_
  refine o1 rfl (det_makeFunc rfl rfl) rfl rfl trivial ?_
  refine o1 rfl (det_assign rfl) rfl rfl trivial ?_
  refine be rfl ?_
  refine k_then ?_
  refine t_ret ?_
  refine ret_tmp rfl rfl rfl (fun w1 hs => ?_)
  exact end_w (bs := [_, _]) (cp' := [_]) (.cons _ (.swap _ _ _)) hs fun F2 h1 h2 h3 => ⟨p3, p4, p5, rfl, rfl, h3 p3 _ _ _ 0 (.tail _ (.head _)) (by simp) _ rfl, h3 p5 _ _ _ 0 (.head _) (by simp) _ rfl⟩
end Go.Proofs.Cp

/-
  Walks through layer 38.
-/
namespace Go.Proofs.Cp
open Go Go.Eng Go.Gt Go.Proofs.Gt Go.Sw Go.Qu Go.Ch Go.Po
set_option maxRecDepth 4000
theorem prun_g {w : World} {F : Know} (hF : ∀ a v, F a = some v → w.cell? a = some v) {p : Ps} {B : Option Addr} {d : Nat} {ms : List Qm} (hK0 : PsK F p B 8 d ms) {A : Option Addr} {n c M : Nat} {l : List Cm} {until_ : Int} (hRl : RowsK cmv 6 F A n l) (hnc : n ≤ c) (hns : n ≤ 4611686018427387904) (hchk : checkB p = true) (hun : p.now ≤ until_ ∧ until_ ≤ 549755813888) (hco : ComeOk p.now until_ l) (hM : ∀ k, k < M → goR until_ (stR (⟨p, A, n, c, l, []⟩ : RS) k) = true) (hE : goR until_ (stR (⟨p, A, n, c, l, []⟩ : RS) M) = false) (hM6 : M ≤ 1000000) : CallsF Try.prog 41 [.agg (psv p B 8 d).toArray, .slice A n c, .int .i64 until_] w noK (fun v F2 => ∃ B2 d2 G2 k2 gk2, v = .tuple [.agg (psv (stayS (stR (⟨p, A, n, c, l, []⟩ : RS) M).p until_) B2 8 d2).toArray, .slice G2 k2 gk2, .int .i64 0].toArray ∧ RowsK cmv 6 F2 G2 k2 (stR (⟨p, A, n, c, l, []⟩ : RS) M).g ∧ k2 ≤ gk2) := by
  have h80 := (front_parts (check_parts hchk).1).2.2.1
  have hcl0 : ClOk p := check_cl hchk
  refine fn_fresh (F := F) Try.func41 rfl Try.ntmps41 rfl hF ?_
  refine t_seq ?_
  refine b0 ?_
  refine om1 rfl (new_boxN rfl) rfl rfl trivial (fun p3 => ?_)
  refine om1 rfl (new_alloc z68) rfl rfl trivial (fun p6 => ?_)
  refine o1 rfl (det_assign rfl) rfl rfl trivial ?_
  refine o1 rfl (det_assign rfl) rfl rfl trivial ?_
  refine be rfl ?_
  refine k_then ?_
  refine t_seq ?_
  refine t_seq ?_
  refine b0 ?_
  refine o1 rfl (det_loadN tN68 rfl rfl (.tail _ (.head _)) rfl) rfl rfl trivial ?_
  refine o1 rfl (det_call hb37 rfl rfl (fun w1 hs => pcheck_ok hs.know hK0)) rfl rfl trivial ?_
  refine o1 rfl (det_assign rfl) rfl rfl trivial ?_
  refine be rfl ?_
  refine k_then ?_
  refine t_seq ?_
  refine b0 ?_
  refine o1 rfl (det_move rfl) rfl rfl trivial ?_
  refine o1 rfl (det_neq rfl rfl) rfl rfl trivial ?_
  refine be rfl ?_
  refine k_then ?_
  refine t_condP bne_iff_ne rfl (fun hb => ?_) (fun hb => ?_)
  · exfalso; rw [hchk] at hb; exact hb rfl
  refine t_skip ?_
  refine k_then ?_
  refine t_seq ?_
  refine t_seq ?_
  refine b0 ?_
  refine o1 rfl (det_move rfl) rfl rfl trivial ?_
  refine o1 rfl (det_fieldAddr fld68_1 rfl) rfl rfl trivial ?_
  refine o1 rfl (det_load1 t1_3 rfl rfl (.tail _ (.head _)) rfl) rfl rfl trivial ?_
  refine o1 rfl (det_lss rfl rfl) rfl rfl trivial ?_
  refine o2P decide_eq_true_iff rfl (det_move rfl) rfl rfl trivial (fun hb => ?_) (fun hb => ?_)
  · exfalso; omega
  refine o1 rfl (det_move rfl) rfl rfl ⟨_, rfl, rfl⟩ ?_
  refine o1 rfl (det_gtr rfl rfl) rfl rfl ⟨_, rfl, rfl⟩ ?_
  refine o1 rfl (det_pickF rfl rfl) rfl rfl trivial ?_
  refine be rfl ?_
  refine k_then ?_
  refine t_condP decide_eq_true_iff rfl (fun hb => ?_) (fun hb => ?_)
  · exfalso; grind
  refine t_skip ?_
  refine k_then ?_
  refine t_seq ?_
  refine b0 ?_
  refine o1 rfl (det_fieldAddr fld68_1 rfl) rfl rfl trivial ?_
  refine o1 rfl (det_load1 t1_3 rfl rfl (.tail _ (.head _)) rfl) rfl rfl trivial ?_
  refine o1 rfl (det_assign rfl) rfl rfl trivial ?_
  refine o1 rfl (det_assign rfl) rfl rfl trivial ?_
  refine be rfl ?_
  refine k_then ?_
  refine t_seq ?_
  refine t_seq ?_
  refine b0 ?_
  refine o1 rfl (det_move rfl) rfl rfl trivial ?_
  refine o1 rfl (det_lenS sl78 rfl) rfl rfl trivial ?_
  refine o1 rfl (det_move rfl) rfl rfl trivial ?_
  refine be rfl ?_
  refine k_then ?_
  refine t_block ?_
  refine t_whileM (σ := Nat) (fun i => [(10, .int .i64 (lastC p.now l i)), (11, .bool false), (38, .int .i64 (i : Int))]) (fun _ => _) (fun i => n - i) (fun i => i ≤ n) 0 (env0 := [(1, _), (2, _), (3, _), (6, _), (36, _), (37, _)]) (Nat.zero_le _) ⟨rfl, rfl, rfl, trivial⟩ ⟨rfl, rfl, rfl, rfl, rfl, rfl, trivial⟩ (.refl _) ?_
  intro i hin
  have hnl := hRl.len
  refine t_seq ?_
  refine b0 ?_
  refine o1 rfl (det_lss rfl rfl) rfl rfl trivial ?_
  refine be rfl ?_
  refine k_then ?_
  refine t_seq ?_
  refine t_condP decide_eq_true_iff rfl (fun hb => ?_) (fun hb => ?_)
  ·
    have hlt : i < l.length := by omega
    obtain ⟨A, rfl⟩ := hRl.some hlt
    have hci := hRl.cells (i := (i : Int)) (k := i) (Int.toNat_natCast i) hlt (cmv_len _)
    have hcx := hco i hlt
    refine t_skip ?_
    refine k_then ?_
    refine t_seq ?_
    refine t_block ?_
    refine t_seq ?_
    refine b0 ?_
    first | (refine o1 rfl (det_indexAddr sl78 rfl rfl ?_) rfl rfl trivial ?_; (· (first | decide | omega)))
    refine o1 rfl (det_loadKN tN89 rfl (r := cmv l[i]) rfl hci) rfl rfl trivial ?_
    refine om1 rfl (new_alloc z89) rfl rfl trivial (fun p13 => ?_)
    refine stN nofun rfl tN89 rfl rfl rfl .head rfl trivial rfl rfl ?_
    refine be rfl ?_
    refine k_then ?_
    refine t_seq ?_
    refine t_seq ?_
    refine b0 ?_
    refine o1 rfl (det_fieldAddr fld89_0 rfl) rfl rfl trivial ?_
    refine o1 rfl (det_load1 t1_3 rfl rfl (.head _) rfl) rfl rfl trivial ?_
    refine o1 rfl (det_move rfl) rfl rfl trivial ?_
    refine o1 rfl (det_lss rfl rfl) rfl rfl trivial ?_
    refine o2P decide_eq_true_iff rfl (det_move rfl) rfl rfl trivial (fun hb => ?_) (fun hb => ?_)
    · exfalso; omega
    refine o1 rfl (det_fieldAddr fld89_0 rfl) rfl rfl ⟨_, rfl, rfl⟩ ?_
    refine o1 rfl (det_load1 t1_3 rfl rfl (.head _) rfl) rfl rfl ⟨_, rfl, rfl⟩ ?_
    refine o1 rfl (det_move rfl) rfl rfl ⟨_, rfl, rfl⟩ ?_
    refine o1 rfl (det_gtr rfl rfl) rfl rfl ⟨_, rfl, rfl⟩ ?_
    refine o1 rfl (det_pickF rfl rfl) rfl rfl trivial ?_
    refine be rfl ?_
    refine k_then ?_
    refine t_condP decide_eq_true_iff rfl (fun hb => ?_) (fun hb => ?_)
    · exfalso; grind
    refine t_skip ?_
    refine k_then ?_
    refine bD mixed ?_
    refine r_seg 11 11 [] [0, 1, 2, 3, 4, 5, 6, 7, 8, 9, 10] (by kernel_rfl) ?_
    refine s1 rfl (det_fieldAddr fld89_0 rfl) rfl rfl trivial rfl ?_
    refine s1 rfl (det_load1 t1_3 rfl rfl (.head _) rfl) rfl rfl trivial rfl ?_
    refine s1 rfl (det_move rfl) rfl rfl trivial rfl ?_
    refine s1 rfl (det_move rfl) rfl rfl trivial rfl ?_
    refine s1 rfl (det_fieldAddr fld89_1 rfl) rfl rfl ⟨_, rfl, rfl⟩ rfl ?_
    refine s1 rfl (det_loadN tN55 rfl rfl (.head _) rfl) rfl rfl ⟨_, rfl, rfl⟩ rfl ?_
    refine s1 rfl (det_call hb77 rfl rfl (fun w1 hs => citem_at hs.know)) rfl rfl ⟨_, rfl, rfl⟩ rfl ?_
    refine s1 rfl (det_neq rfl rfl) rfl rfl ⟨_, rfl, rfl⟩ rfl ?_
    refine s1 rfl (det_pickF rfl rfl) rfl rfl trivial rfl ?_
    refine s1 rfl (det_assign rfl) rfl rfl trivial rfl ?_
    refine s1 rfl (det_assign rfl) rfl rfl trivial rfl ?_
    refine sg_nil ?_
    refine be rfl ?_
    refine k_blk ?_
    refine k_then ?_
    refine b0 ?_
    first | (refine o1 rfl (det_addI rfl rfl ?_) rfl rfl trivial ?_; (· omega)) | refine o1 rfl (det_add rfl rfl) rfl rfl trivial ?_
    refine o1 rfl (det_move rfl) rfl rfl trivial ?_
    refine be rfl ?_
    refine k_then ?_
    refine loop_back (i + 1) (by omega) (by omega) ⟨(mi rfl (lastC_succ hlt).symm), (mb rfl (by rw [hcx.1]; rfl)), rfl, rfl, rfl, rfl, rfl, rfl, rfl, trivial⟩ (.cons _ (.refl _))
  ·
    skip
    refine t_exit ?_
    refine k_thenE ?_
    refine k_thenE ?_
    refine k_blkE ?_
    refine k_then ?_
    refine t_seq ?_
    refine t_seq ?_
    refine b0 ?_
    refine o1 rfl (det_move rfl) rfl rfl trivial ?_
    refine be rfl ?_
    refine k_then ?_
    refine t_condF rfl ?_
    refine t_skip ?_
    refine k_then ?_
    refine t_seq ?_
    refine b0 ?_
    refine o1 rfl (det_loadN tN68 rfl rfl (.tail _ (.head _)) rfl) rfl rfl trivial ?_
    refine o1 rfl (det_build rfl (fun w => bld125_0 _ _ _ _ _ _ _ _ _ _ _ _ _ _ _ _ _ _ _ _ _ w)) rfl rfl trivial ?_
    refine om1 rfl (new_boxN rfl) rfl rfl trivial (fun p67 => ?_)
    refine om1 rfl (new_alloc z123) rfl rfl trivial (fun p14 => ?_)
    refine st1 nofun rfl t1_123 rfl rfl rfl .head rfl trivial rfl ?_
    refine be rfl ?_
    refine k_then ?_
    refine t_seq ?_
    refine t_seq ?_
    refine b0 ?_
    refine o1 rfl (det_load1 t1_123 rfl rfl (.head _) rfl) rfl rfl trivial ?_
    refine o1 rfl (det_move rfl) rfl rfl trivial ?_
    refine o1 rfl (det_move rfl) rfl rfl trivial ?_
    refine oW (cp := []) (rest := [_, _, _, _]) (.refl _) nofun rfl hb78 rfl rfl rfl trivial (fun w1 hs => ptimes_ok (A := A) (n := n) (c := c) (until_ := until_) hs.know (satA (cp := []) hs) (satN (cp := []) hs) (satO (cp := []) hs)) (fun v1 cp1 F1 hF1 hN1 hr => ?_)
    obtain ⟨q3, q4, q5, rfl, rfl, h3, h5⟩ := hr
    refine be rfl ?_
    refine k_then ?_
    refine t_block ?_
    refine tk_rot1 ?_
    refine tk_perm (List.perm_middle (l₁ := [_])) ?_
    refine t_rangeF3 (σ := QS) (fun s => [(p67, .cells (pev s.P s.B 8 s.d s.G s.kk s.gk).toArray 125 (0, 0)), (p14, .cells [.pointer (some ⟨p67, 0, none⟩)].toArray 123 (0, 0)), (p6, .cells (psv zeroP none 0 0).toArray 68 (0, 0))] ++ s.b) (fun s => s.K) (fun k s => s.P = (stR (⟨p, A, n, c, l, []⟩ : RS) k).p ∧ s.gs = (stR (⟨p, A, n, c, l, []⟩ : RS) k).g ∧ PsK s.K s.P s.B 8 s.d s.ms ∧ s.P.qs.length = 8 ∧ ClOk s.P ∧ SlO 88 6 (.slice s.G s.kk s.gk) s.kk (rowsV cmv s.gs) s.b ∧ s.kk ≤ k ∧ Incl F1 s.K ∧ (∀ a u, s.K a = some u → F a = some u ∨ w.heap.size ≤ a.block)) (fun j s => False) ⟨F1, p, [], B, d, ms, none, 0, 0, []⟩ (fun k => [.int .i64 (tmR (stR (⟨p, A, n, c, l, []⟩ : RS) k)), .slice (stR (⟨p, A, n, c, l, []⟩ : RS) k).A (cntR (stR (⟨p, A, n, c, l, []⟩ : RS) k)) (cntR (stR (⟨p, A, n, c, l, []⟩ : RS) k))]) (env0 := [(2, _), (6, _), (14, _)]) rfl hb100 (times_gives hM hE) (fun k hk => by simp [yldR]) (fun _ => rfl) rfl ⟨rfl, rfl, hK0.mono hF1, h80, hcl0, SlO.nil 88 6, Nat.le_refl _, incl_refl, fun a u h => hN1 a u h⟩ incl_refl ⟨rfl, rfl, rfl, trivial⟩ (.cons_cons _ (.cons_cons _ (.cons_cons _ (.cons _ (.refl _))))) (fun k s W hI hk ho => by
        obtain ⟨g1, g2, g3, g4, g5, g6, g7, g8, g9⟩ := hI
        refine ⟨hk _ _ (g8 _ _ h3), hk _ _ (g8 _ _ h5), RK.mono (RK.mono (s := (⟨p, A, n, c, l, []⟩ : RS)) ⟨hRl, hnc, hns⟩ (fun a u h => hF1 _ _ h)) (fun a u h => hk _ _ (g8 _ _ h)), ⟨s.B, s.d, s.G, s.kk, s.gk, s.ms, fun j hj => ?_, by rw [← g1]; exact g3.mono hk, by rw [← g1]; exact g4⟩⟩
        obtain ⟨u, hu⟩ : ∃ u, (pev (stR (⟨p, A, n, c, l, []⟩ : RS) k).p s.B 8 s.d s.G s.kk s.gk)[j]? = some u := ⟨_, List.getElem?_eq_getElem (by exact hj)⟩
        rw [hu, add_mk, Nat.zero_add]
        refine ho p67 _ 125 (.head _) j u ?_
        rw [← Array.getElem?_toList, g1]; exact hu) ?_ ?_ ?_
    ·
      rintro W2 S2 lp0 D r k s o hr hk hW2 ⟨hP, hg, hK, h8, hcl, hS, hkk, hIF, hfr⟩
      obtain ⟨R, hRR⟩ : ∃ R, stR (⟨p, A, n, c, l, []⟩ : RS) k = R := ⟨_, rfl⟩
      obtain ⟨t, htt⟩ : ∃ t, tmR R = t := ⟨_, rfl⟩
      have hgo := hM k (by rw [← yldR_len (⟨p, A, n, c, l, []⟩ : RS) M]; exact hk)
      rw [hRR] at hP hg hgo ⊢
      rw [htt]
      have hRK : RK s.K R := by rw [← hRR]; exact ((RK.mono (RK.mono (s := (⟨p, A, n, c, l, []⟩ : RS)) ⟨hRl, hnc, hns⟩ (fun a u h => hF1 _ _ h)) hIF).all k)
      have hcnt : cntR R ≤ R.l.length := cntL_le _ _
      have hsm := hRK.small
      have hRln := hRK.rows.len
      have hkM : k < M := by rw [← yldR_len (⟨p, A, n, c, l, []⟩ : RS) M]; exact hk
      refine tk_outB (pre := [_, _, _]) (b := s.b) (post := [_, _, _]) ?_
      simp only [List.cons_append, List.nil_append]
      refine t_seq ?_
      refine b0 ?_
      refine o1 rfl (det_assign rfl) rfl rfl trivial ?_
      refine be rfl ?_
      refine k_then ?_
      refine b0 ?_
      refine o1 rfl (det_assign rfl) rfl rfl trivial ?_
      refine be rfl ?_
      refine k_then ?_
      refine k_begin (pre := [_, _, _, _]) hr.1 rfl ?_
      refine t_block ?_
      refine t_seq ?_
      refine b0 ?_
      refine o1 rfl (det_load1 t1_123 rfl rfl (.tail _ (.head _)) rfl) rfl rfl trivial ?_
      refine o1 rfl (det_move rfl) rfl rfl trivial ?_
      refine o1 rfl (det_nilCheck rfl) rfl rfl trivial ?_
      refine o1 rfl (det_fieldAddr fld125_0 rfl) rfl rfl trivial ?_
      refine o1 rfl (det_fieldAddr fld68_1 rfl) rfl rfl trivial ?_
      refine st1 nofun rfl t1_3 rfl rfl rfl .head rfl trivial rfl ?_
      refine be rfl ?_
      refine k_then ?_
      refine t_seq ?_
      refine t_seq ?_
      refine b0 ?_
      refine o1 rfl (det_load1 t1_123 rfl rfl (.tail _ (.head _)) rfl) rfl rfl trivial ?_
      refine o1 rfl (det_nilCheck rfl) rfl rfl trivial ?_
      refine o1 rfl (det_fieldAddr fld125_0 rfl) rfl rfl trivial ?_
      refine o1 rfl (det_fieldAddr fld68_3 rfl) rfl rfl trivial ?_
      refine o1 rfl (det_load1 t1_4 rfl rfl (.head _) rfl) rfl rfl trivial ?_
      refine o2P Iff.rfl rfl (det_move rfl) rfl rfl trivial (fun hb => ?_) (fun hb => ?_)
      ·
        have hby := hb
        refine o1 rfl (det_load1 t1_123 rfl rfl (.tail _ (.head _)) rfl) rfl rfl ⟨_, rfl, rfl⟩ ?_
        refine o1 rfl (det_nilCheck rfl) rfl rfl ⟨_, rfl, rfl⟩ ?_
        refine o1 rfl (det_fieldAddr fld125_0 rfl) rfl rfl ⟨_, rfl, rfl⟩ ?_
        refine o1 rfl (det_fieldAddr fld68_6 rfl) rfl rfl ⟨_, rfl, rfl⟩ ?_
        refine o1 rfl (det_load1 t1_3 rfl rfl (.head _) rfl) rfl rfl ⟨_, rfl, rfl⟩ ?_
        refine o1 rfl (det_move rfl) rfl rfl ⟨_, rfl, rfl⟩ ?_
        refine o1 rfl (det_eql rfl rfl) rfl rfl ⟨_, rfl, rfl⟩ ?_
        refine o1 rfl (det_pickT rfl rfl) rfl rfl trivial ?_
        refine be rfl ?_
        refine k_then ?_
        refine t_condP beq_iff_eq rfl (fun hb => ?_) (fun hb => ?_)
        ·
          have hfi : (stayS s.P t).fin = t := by grind [stayS]
          --note:fin
          refine b0 ?_
          refine o1 rfl (det_load1 t1_123 rfl rfl (.tail _ (.head _)) rfl) rfl rfl trivial ?_
          refine oW (cp := [_] ++ s.b) (rest := [_, _, _, _, _]) (List.Perm.cons _ (List.perm_append_comm (l₁ := [_, _, _, _, _]) (l₂ := s.b))) nofun rfl hb79 rfl rfl rfl trivial (fun w1 hs => pend_ok (p := stayS s.P t) (gs := s.gs) (b := s.b) (B := s.B) (d := s.d) (G := s.G) (k := s.kk) (gk := s.gk) hs.know (psK_of hK rfl rfl) h8 hS (by omega) hcl.stay (satA hs) (satN hs) (satO hs)) (fun v3 cp3 F3 hF3 hN3 hr3 => ?_)
          obtain ⟨rfl, B3, d3, ms3, G3, k3, gk3, b3, rfl, hS3, hK3⟩ := hr3
          refine tk_outB (pre := [_]) (b := b3) (post := [_, _, _, _, _]) ?_
          simp only [List.cons_append, List.nil_append]
          have h83 : (endS (stayS s.P t) s.gs).1.qs.length = 8 := by rw [endS_len.1]; exact h8
          have hcl3 := (ClOk.stay (t := t) hcl).end_ (g := s.gs)
          refine be rfl ?_
          refine k_then ?_
          refine t_seq ?_
          refine t_seq ?_
          refine b0 ?_
          refine o1 rfl (det_move rfl) rfl rfl trivial ?_
          refine o1 rfl (det_lenS sl78 rfl) rfl rfl trivial ?_
          refine o1 rfl (det_move rfl) rfl rfl trivial ?_
          refine be rfl ?_
          refine k_then ?_
          refine t_block ?_
          refine t_whileK (σ := AS) (fun a => [(97, .int .i64 (a.i : Int))]) (fun a => a.K) (fun a => [(p67, .cells (pev a.P a.B 8 a.d G3 k3 gk3).toArray 125 (0, 0)), (p14, .cells [.pointer (some ⟨p67, 0, none⟩)].toArray 123 (0, 0)), (p6, .cells (psv zeroP none 0 0).toArray 68 (0, 0)), (q4, o), (lp0, .loop { r with state := .busy }), deadO D] ++ b3) (fun a => cntR R - a.i) (fun a => a.i ≤ cntR R ∧ a.P = comeR (endS (stayS s.P t) s.gs).1 (R.l.take a.i) ∧ PsK a.K a.P a.B 8 a.d a.ms ∧ a.P.qs.length = 8 ∧ Incl F3 a.K ∧ (∀ x u, a.K x = some u → F3 x = some u ∨ W2.heap.size ≤ x.block)) ⟨0, F3, (endS (stayS s.P t) s.gs).1, B3, d3, ms3⟩ (env0 := [(14, _), (95, _), (96, _)]) ⟨Nat.zero_le _, rfl, hK3, h83, incl_refl, fun _ _ h => .inl h⟩ incl_refl ⟨rfl, trivial⟩ ⟨rfl, rfl, rfl, trivial⟩ (.refl _) ?_
          rintro a ⟨hai, haP, haK, ha8, haF, haN⟩
          refine t_seq ?_
          refine b0 ?_
          refine o1 rfl (det_lss rfl rfl) rfl rfl trivial ?_
          refine be rfl ?_
          refine k_then ?_
          refine t_seq ?_
          refine t_condP decide_eq_true_iff rfl (fun hb => ?_) (fun hb => ?_)
          ·
            have hlt : a.i < R.l.length := by omega
            have hrows := hRK.rows.mono (fun x u h => haF x u (hF3 _ _ h))
            obtain ⟨A7, hA7⟩ := hrows.some hlt
            rw [hA7] at hrows
            rw [hA7]
            have hci := hrows.cells (i := (a.i : Int)) (k := a.i) (Int.toNat_natCast a.i) hlt (cmv_len _)
            obtain ⟨x, hx⟩ : ∃ x, R.l[a.i] = x := ⟨_, rfl⟩
            rw [hx] at hci
            refine t_skip ?_
            refine k_then ?_
            refine t_seq ?_
            refine t_block ?_
            refine t_seq ?_
            refine b0 ?_
            first | (refine o1 rfl (det_indexAddr sl78 rfl rfl ?_) rfl rfl trivial ?_; (· (first | decide | omega)))
            refine o1 rfl (det_loadKN tN89 rfl (r := cmv x) rfl hci) rfl rfl trivial ?_
            refine om1 rfl (new_alloc z89) rfl rfl trivial (fun p18 => ?_)
            refine stN nofun rfl tN89 rfl rfl rfl .head rfl trivial rfl rfl ?_
            refine be rfl ?_
            refine k_then ?_
            refine b0 ?_
            refine o1 rfl (det_load1 t1_123 rfl rfl (.tail _ (.tail _ (.head _))) rfl) rfl rfl trivial ?_
            refine o1 rfl (det_fieldAddr fld89_1 rfl) rfl rfl trivial ?_
            refine o1 rfl (det_loadN tN55 rfl rfl (.head _) rfl) rfl rfl trivial ?_
            refine oM (cp := [_]) (rest := _) (List.perm_middle (l₁ := [_])) nofun rfl hb80 rfl rfl rfl trivial (fun w1 hs => parr_ok (p := a.P) (x := x.it) (B := a.B) (m := 8) (d := a.d) (G := G3) (k := k3) (gk := gk3) hs.know haK ha8 (satA hs) (satN hs) (satO hs)) (fun v4 cp4 F4 hF4 hN4 hr4 hi4 => ?_)
            obtain ⟨rfl, B4, d4, ms4, rfl, hK4⟩ := hr4
            refine be rfl ?_
            refine k_blk ?_
            refine k_then ?_
            refine b0 ?_
            first | (refine o1 rfl (det_addI rfl rfl ?_) rfl rfl trivial ?_; (· omega)) | refine o1 rfl (det_add rfl rfl) rfl rfl trivial ?_
            refine o1 rfl (det_move rfl) rfl rfl trivial ?_
            refine be rfl ?_
            refine k_then ?_
            refine loop_backK (⟨a.i + 1, F4, (arriveS a.P x.it).1, B4, d4, ms4⟩ : AS) ⟨by simp only; omega, by rw [come_succ hlt, ← haP, hx], hK4, by rw [arriveS_len.1]; exact ha8, fun _ _ h => hF4 _ _ (haF _ _ h), fun x u h => (hN4 x u h).elim (haN x u) .inr⟩ (by simp only; omega) incl_refl ⟨rfl, rfl, rfl, rfl, trivial⟩ (.cons_cons _ (.cons _ (.refl _)))
          ·
            have hai' : a.i = cntR R := by omega
            refine t_exit ?_
            refine k_thenE ?_
            refine k_thenE ?_
            refine k_blkE ?_
            refine k_then ?_
            refine b0 ?_
            refine o1 rfl (det_load1 t1_123 rfl rfl (.tail _ (.head _)) rfl) rfl rfl trivial ?_
            refine oM (cp := [_]) (rest := _) (.refl _) nofun rfl hb81 rfl rfl rfl trivial (fun w1 hs => pcho_ok (p := a.P) (B := a.B) (m := 8) (d := a.d) (G := G3) (k := k3) (gk := gk3) hs.know haK ha8 (satA hs) (satN hs) (satO hs)) (fun v5 cp5 F5 hF5 hN5 hr5 hi5 => ?_)
            obtain ⟨rfl, B5, d5, ms5, rfl, hK5⟩ := hr5
            refine be rfl ?_
            refine k_blk ?_
            have hEq := endR_yes (p := stayS s.P t) (g := s.gs) hby hfi
            refine tk_inB (news := []) (pre := [_, _, _]) (b := b3) (post := [_, _, _]) ?_
            refine round_next3 (⟨F5, (chooseS a.P).1, (endS (stayS s.P t) s.gs).2.1, B5, d5, ms5, G3, k3, gk3, b3⟩ : QS) hr ⟨?_, ?_, hK5, ?_, ?_, hS3, ?_, ?_, ?_⟩ incl_refl (.refl _) rfl rfl
            · rw [stR_p, hRR, htt]
              unfold bodyR
              rw [← hP, ← hg, hEq, haP, hai']
            · rw [stR_g, hRR, htt, ← hP, ← hg, hEq]
            · rw [chooseS_len.1]; exact ha8
            · rw [haP]
              exact ClOk.choose (ClOk.come hcl3)
            · simp only; have h1 := hS3.1; have h2 := hS.1; rw [rowsV_len cmv_len] at h1 h2; have := endS_gone (p := stayS s.P t) (g := s.gs); omega
            · exact fun x u h => hF5 _ _ (haF _ _ (hF3 _ _ (hIF _ _ h)))
            · exact fun x u h => (hN5 x u h).elim (fun h => (haN x u h).elim (fun h => (hN3 x u h).elim (hfr x u) (fun h => .inr (Nat.le_trans hW2 h))) (fun h => .inr (Nat.le_trans hW2 h))) (fun h => .inr (Nat.le_trans hW2 h))
        ·
          have hno : ¬ ((stayS s.P t).busy = true ∧ (stayS s.P t).fin = t) := fun h => hb (by grind [stayS])
          refine t_skip ?_
          refine k_then ?_
          refine t_seq ?_
          refine t_seq ?_
          refine b0 ?_
          refine o1 rfl (det_move rfl) rfl rfl trivial ?_
          refine o1 rfl (det_lenS sl78 rfl) rfl rfl trivial ?_
          refine o1 rfl (det_move rfl) rfl rfl trivial ?_
          refine be rfl ?_
          refine k_then ?_
          refine t_block ?_
          refine t_whileK (σ := AS) (fun a => [(97, .int .i64 (a.i : Int))]) (fun a => a.K) (fun a => [(p67, .cells (pev a.P a.B 8 a.d s.G s.kk s.gk).toArray 125 (0, 0)), (p14, .cells [.pointer (some ⟨p67, 0, none⟩)].toArray 123 (0, 0)), (p6, .cells (psv zeroP none 0 0).toArray 68 (0, 0)), (q4, o), (lp0, .loop { r with state := .busy }), deadO D] ++ s.b) (fun a => cntR R - a.i) (fun a => a.i ≤ cntR R ∧ a.P = comeR (stayS s.P t) (R.l.take a.i) ∧ PsK a.K a.P a.B 8 a.d a.ms ∧ a.P.qs.length = 8 ∧ Incl s.K a.K ∧ (∀ x u, a.K x = some u → s.K x = some u ∨ W2.heap.size ≤ x.block)) ⟨0, s.K, (stayS s.P t), s.B, s.d, s.ms⟩ (env0 := [(14, _), (95, _), (96, _)]) ⟨Nat.zero_le _, rfl, psK_of hK rfl rfl, h8, incl_refl, fun _ _ h => .inl h⟩ incl_refl ⟨rfl, trivial⟩ ⟨rfl, rfl, rfl, trivial⟩ (.refl _) ?_
          rintro a ⟨hai, haP, haK, ha8, haF, haN⟩
          refine t_seq ?_
          refine b0 ?_
          refine o1 rfl (det_lss rfl rfl) rfl rfl trivial ?_
          refine be rfl ?_
          refine k_then ?_
          refine t_seq ?_
          refine t_condP decide_eq_true_iff rfl (fun hb => ?_) (fun hb => ?_)
          ·
            have hlt : a.i < R.l.length := by omega
            have hrows := hRK.rows.mono (fun x u h => haF x u h)
            obtain ⟨A7, hA7⟩ := hrows.some hlt
            rw [hA7] at hrows
            rw [hA7]
            have hci := hrows.cells (i := (a.i : Int)) (k := a.i) (Int.toNat_natCast a.i) hlt (cmv_len _)
            obtain ⟨x, hx⟩ : ∃ x, R.l[a.i] = x := ⟨_, rfl⟩
            rw [hx] at hci
            refine t_skip ?_
            refine k_then ?_
            refine t_seq ?_
            refine t_block ?_
            refine t_seq ?_
            refine b0 ?_
            first | (refine o1 rfl (det_indexAddr sl78 rfl rfl ?_) rfl rfl trivial ?_; (· (first | decide | omega)))
            refine o1 rfl (det_loadKN tN89 rfl (r := cmv x) rfl hci) rfl rfl trivial ?_
            refine om1 rfl (new_alloc z89) rfl rfl trivial (fun p18 => ?_)
            refine stN nofun rfl tN89 rfl rfl rfl .head rfl trivial rfl rfl ?_
            refine be rfl ?_
            refine k_then ?_
            refine b0 ?_
            refine o1 rfl (det_load1 t1_123 rfl rfl (.tail _ (.tail _ (.head _))) rfl) rfl rfl trivial ?_
            refine o1 rfl (det_fieldAddr fld89_1 rfl) rfl rfl trivial ?_
            refine o1 rfl (det_loadN tN55 rfl rfl (.head _) rfl) rfl rfl trivial ?_
            refine oM (cp := [_]) (rest := _) (List.perm_middle (l₁ := [_])) nofun rfl hb80 rfl rfl rfl trivial (fun w1 hs => parr_ok (p := a.P) (x := x.it) (B := a.B) (m := 8) (d := a.d) (G := s.G) (k := s.kk) (gk := s.gk) hs.know haK ha8 (satA hs) (satN hs) (satO hs)) (fun v4 cp4 F4 hF4 hN4 hr4 hi4 => ?_)
            obtain ⟨rfl, B4, d4, ms4, rfl, hK4⟩ := hr4
            refine be rfl ?_
            refine k_blk ?_
            refine k_then ?_
            refine b0 ?_
            first | (refine o1 rfl (det_addI rfl rfl ?_) rfl rfl trivial ?_; (· omega)) | refine o1 rfl (det_add rfl rfl) rfl rfl trivial ?_
            refine o1 rfl (det_move rfl) rfl rfl trivial ?_
            refine be rfl ?_
            refine k_then ?_
            refine loop_backK (⟨a.i + 1, F4, (arriveS a.P x.it).1, B4, d4, ms4⟩ : AS) ⟨by simp only; omega, by rw [come_succ hlt, ← haP, hx], hK4, by rw [arriveS_len.1]; exact ha8, fun _ _ h => hF4 _ _ (haF _ _ h), fun x u h => (hN4 x u h).elim (haN x u) .inr⟩ (by simp only; omega) incl_refl ⟨rfl, rfl, rfl, rfl, trivial⟩ (.cons_cons _ (.cons _ (.refl _)))
          ·
            have hai' : a.i = cntR R := by omega
            refine t_exit ?_
            refine k_thenE ?_
            refine k_thenE ?_
            refine k_blkE ?_
            refine k_then ?_
            refine b0 ?_
            refine o1 rfl (det_load1 t1_123 rfl rfl (.tail _ (.head _)) rfl) rfl rfl trivial ?_
            refine oM (cp := [_]) (rest := _) (.refl _) nofun rfl hb81 rfl rfl rfl trivial (fun w1 hs => pcho_ok (p := a.P) (B := a.B) (m := 8) (d := a.d) (G := s.G) (k := s.kk) (gk := s.gk) hs.know haK ha8 (satA hs) (satN hs) (satO hs)) (fun v5 cp5 F5 hF5 hN5 hr5 hi5 => ?_)
            obtain ⟨rfl, B5, d5, ms5, rfl, hK5⟩ := hr5
            refine be rfl ?_
            refine k_blk ?_
            have hEq := endR_no (p := stayS s.P t) (g := s.gs) hno
            refine tk_inB (news := []) (pre := [_, _, _]) (b := s.b) (post := [_, _, _]) ?_
            refine round_next3 (⟨F5, (chooseS a.P).1, s.gs, B5, d5, ms5, s.G, s.kk, s.gk, s.b⟩ : QS) hr ⟨?_, ?_, hK5, ?_, ?_, hS, ?_, ?_, ?_⟩ incl_refl (.refl _) rfl rfl
            · rw [stR_p, hRR, htt]
              unfold bodyR
              rw [← hP, ← hg, hEq, haP, hai']
            · rw [stR_g, hRR, htt, ← hP, ← hg, hEq]
            · rw [chooseS_len.1]; exact ha8
            · rw [haP]
              exact ClOk.choose (ClOk.come hcl.stay)
            · simp only; omega
            · exact fun x u h => hF5 _ _ (haF _ _ (hIF _ _ h))
            · exact fun x u h => (hN5 x u h).elim (fun h => (haN x u h).elim (fun h => hfr x u h) (fun h => .inr (Nat.le_trans hW2 h))) (fun h => .inr (Nat.le_trans hW2 h))
      ·
        have hno : ¬ ((stayS s.P t).busy = true ∧ (stayS s.P t).fin = t) := fun h => hb h.1
        refine on rfl rfl rfl ⟨_, rfl, .inl rfl⟩ ?_
        refine on rfl rfl rfl ⟨_, rfl, .inl rfl⟩ ?_
        refine on rfl rfl rfl ⟨_, rfl, .inl rfl⟩ ?_
        refine on rfl rfl rfl ⟨_, rfl, .inl rfl⟩ ?_
        refine on rfl rfl rfl ⟨_, rfl, .inl rfl⟩ ?_
        refine on rfl rfl rfl ⟨_, rfl, .inl rfl⟩ ?_
        refine on rfl rfl rfl ⟨_, rfl, .inl rfl⟩ ?_
        refine o1 rfl (det_pickF rfl rfl) rfl rfl trivial ?_
        refine be rfl ?_
        refine k_then ?_
        refine t_condF rfl ?_
        refine t_skip ?_
        refine k_then ?_
        refine t_seq ?_
        refine t_seq ?_
        refine b0 ?_
        refine o1 rfl (det_move rfl) rfl rfl trivial ?_
        refine o1 rfl (det_lenS sl78 rfl) rfl rfl trivial ?_
        refine o1 rfl (det_move rfl) rfl rfl trivial ?_
        refine be rfl ?_
        refine k_then ?_
        refine t_block ?_
        refine t_whileK (σ := AS) (fun a => [(97, .int .i64 (a.i : Int))]) (fun a => a.K) (fun a => [(p67, .cells (pev a.P a.B 8 a.d s.G s.kk s.gk).toArray 125 (0, 0)), (p14, .cells [.pointer (some ⟨p67, 0, none⟩)].toArray 123 (0, 0)), (p6, .cells (psv zeroP none 0 0).toArray 68 (0, 0)), (q4, o), (lp0, .loop { r with state := .busy }), deadO D] ++ s.b) (fun a => cntR R - a.i) (fun a => a.i ≤ cntR R ∧ a.P = comeR (stayS s.P t) (R.l.take a.i) ∧ PsK a.K a.P a.B 8 a.d a.ms ∧ a.P.qs.length = 8 ∧ Incl s.K a.K ∧ (∀ x u, a.K x = some u → s.K x = some u ∨ W2.heap.size ≤ x.block)) ⟨0, s.K, (stayS s.P t), s.B, s.d, s.ms⟩ (env0 := [(14, _), (95, _), (96, _)]) ⟨Nat.zero_le _, rfl, psK_of hK rfl rfl, h8, incl_refl, fun _ _ h => .inl h⟩ incl_refl ⟨rfl, trivial⟩ ⟨rfl, rfl, rfl, trivial⟩ (.refl _) ?_
        rintro a ⟨hai, haP, haK, ha8, haF, haN⟩
        refine t_seq ?_
        refine b0 ?_
        refine o1 rfl (det_lss rfl rfl) rfl rfl trivial ?_
        refine be rfl ?_
        refine k_then ?_
        refine t_seq ?_
        refine t_condP decide_eq_true_iff rfl (fun hb => ?_) (fun hb => ?_)
        ·
          have hlt : a.i < R.l.length := by omega
          have hrows := hRK.rows.mono (fun x u h => haF x u h)
          obtain ⟨A7, hA7⟩ := hrows.some hlt
          rw [hA7] at hrows
          rw [hA7]
          have hci := hrows.cells (i := (a.i : Int)) (k := a.i) (Int.toNat_natCast a.i) hlt (cmv_len _)
          obtain ⟨x, hx⟩ : ∃ x, R.l[a.i] = x := ⟨_, rfl⟩
          rw [hx] at hci
          refine t_skip ?_
          refine k_then ?_
          refine t_seq ?_
          refine t_block ?_
          refine t_seq ?_
          refine b0 ?_
          first | (refine o1 rfl (det_indexAddr sl78 rfl rfl ?_) rfl rfl trivial ?_; (· (first | decide | omega)))
          refine o1 rfl (det_loadKN tN89 rfl (r := cmv x) rfl hci) rfl rfl trivial ?_
          refine om1 rfl (new_alloc z89) rfl rfl trivial (fun p18 => ?_)
          refine stN nofun rfl tN89 rfl rfl rfl .head rfl trivial rfl rfl ?_
          refine be rfl ?_
          refine k_then ?_
          refine b0 ?_
          refine o1 rfl (det_load1 t1_123 rfl rfl (.tail _ (.tail _ (.head _))) rfl) rfl rfl trivial ?_
          refine o1 rfl (det_fieldAddr fld89_1 rfl) rfl rfl trivial ?_
          refine o1 rfl (det_loadN tN55 rfl rfl (.head _) rfl) rfl rfl trivial ?_
          refine oM (cp := [_]) (rest := _) (List.perm_middle (l₁ := [_])) nofun rfl hb80 rfl rfl rfl trivial (fun w1 hs => parr_ok (p := a.P) (x := x.it) (B := a.B) (m := 8) (d := a.d) (G := s.G) (k := s.kk) (gk := s.gk) hs.know haK ha8 (satA hs) (satN hs) (satO hs)) (fun v4 cp4 F4 hF4 hN4 hr4 hi4 => ?_)
          obtain ⟨rfl, B4, d4, ms4, rfl, hK4⟩ := hr4
          refine be rfl ?_
          refine k_blk ?_
          refine k_then ?_
          refine b0 ?_
          first | (refine o1 rfl (det_addI rfl rfl ?_) rfl rfl trivial ?_; (· omega)) | refine o1 rfl (det_add rfl rfl) rfl rfl trivial ?_
          refine o1 rfl (det_move rfl) rfl rfl trivial ?_
          refine be rfl ?_
          refine k_then ?_
          refine loop_backK (⟨a.i + 1, F4, (arriveS a.P x.it).1, B4, d4, ms4⟩ : AS) ⟨by simp only; omega, by rw [come_succ hlt, ← haP, hx], hK4, by rw [arriveS_len.1]; exact ha8, fun _ _ h => hF4 _ _ (haF _ _ h), fun x u h => (hN4 x u h).elim (haN x u) .inr⟩ (by simp only; omega) incl_refl ⟨rfl, rfl, rfl, rfl, trivial⟩ (.cons_cons _ (.cons _ (.refl _)))
        ·
          have hai' : a.i = cntR R := by omega
          refine t_exit ?_
          refine k_thenE ?_
          refine k_thenE ?_
          refine k_blkE ?_
          refine k_then ?_
          refine b0 ?_
          refine o1 rfl (det_load1 t1_123 rfl rfl (.tail _ (.head _)) rfl) rfl rfl trivial ?_
          refine oM (cp := [_]) (rest := _) (.refl _) nofun rfl hb81 rfl rfl rfl trivial (fun w1 hs => pcho_ok (p := a.P) (B := a.B) (m := 8) (d := a.d) (G := s.G) (k := s.kk) (gk := s.gk) hs.know haK ha8 (satA hs) (satN hs) (satO hs)) (fun v5 cp5 F5 hF5 hN5 hr5 hi5 => ?_)
          obtain ⟨rfl, B5, d5, ms5, rfl, hK5⟩ := hr5
          refine be rfl ?_
          refine k_blk ?_
          have hEq := endR_no (p := stayS s.P t) (g := s.gs) hno
          refine tk_inB (news := []) (pre := [_, _, _]) (b := s.b) (post := [_, _, _]) ?_
          refine round_next3 (⟨F5, (chooseS a.P).1, s.gs, B5, d5, ms5, s.G, s.kk, s.gk, s.b⟩ : QS) hr ⟨?_, ?_, hK5, ?_, ?_, hS, ?_, ?_, ?_⟩ incl_refl (.refl _) rfl rfl
          · rw [stR_p, hRR, htt]
            unfold bodyR
            rw [← hP, ← hg, hEq, haP, hai']
          · rw [stR_g, hRR, htt, ← hP, ← hg, hEq]
          · rw [chooseS_len.1]; exact ha8
          · rw [haP]
            exact ClOk.choose (ClOk.come hcl.stay)
          · simp only; omega
          · exact fun x u h => hF5 _ _ (haF _ _ (hIF _ _ h))
          · exact fun x u h => (hN5 x u h).elim (fun h => (haN x u h).elim (fun h => hfr x u h) (fun h => .inr (Nat.le_trans hW2 h))) (fun h => .inr (Nat.le_trans hW2 h))
    ·
      rintro D s ⟨hP, hg, hK, h8, hcl, hS, hkk, hIF, hfr⟩
      refine k_blk ?_
      refine k_then ?_
      refine t_seq ?_
      refine b0 ?_
      refine o1 rfl (det_load1 t1_123 rfl rfl (.tail _ (.head _)) rfl) rfl rfl trivial ?_
      refine o1 rfl (det_move rfl) rfl rfl trivial ?_
      refine o1 rfl (det_nilCheck rfl) rfl rfl trivial ?_
      refine o1 rfl (det_fieldAddr fld125_0 rfl) rfl rfl trivial ?_
      refine o1 rfl (det_fieldAddr fld68_1 rfl) rfl rfl trivial ?_
      refine st1 nofun rfl t1_3 rfl rfl rfl .head rfl trivial rfl ?_
      refine be rfl ?_
      refine k_then ?_
      refine t_seq ?_
      refine bD mixed ?_
      refine r_bar 11 8 [] [0, 1, 2, 3, 4, 5, 6, 7] _ (by kernel_rfl) (.cons_cons _ (.cons_cons _ (.cons _ (.refl _)))) ?_
      refine s1 rfl (det_load1 t1_123 rfl rfl (.tail _ (.head _)) rfl) rfl rfl trivial rfl ?_
      refine s1 rfl (det_nilCheck rfl) rfl rfl trivial rfl ?_
      refine s1 rfl (det_fieldAddr fld125_0 rfl) rfl rfl trivial rfl ?_
      refine s1 rfl (det_loadN tN68 rfl rfl (.head _) rfl) rfl rfl trivial rfl ?_
      refine s1 rfl (det_load1 t1_123 rfl rfl (.tail _ (.head _)) rfl) rfl rfl trivial rfl ?_
      refine s1 rfl (det_nilCheck rfl) rfl rfl trivial rfl ?_
      refine s1 rfl (det_fieldAddr fld125_1 rfl) rfl rfl trivial rfl ?_
      refine s1 rfl (det_load1 t1_83 rfl rfl (.head _) rfl) rfl rfl trivial rfl ?_
      refine sg_nil ⟨?_, ?_⟩
      rotate_left
      ·
        exact bar_stN rfl tN68 rfl rfl rfl (.tail (.tail .head)) rfl trivial rfl rfl (.tail _ (.tail _ (.head _))) (.cons_cons _ (.cons_cons _ (.cons _ (.refl _))))
      refine stN (fun _ => by kernel_rfl) rfl tN68 rfl rfl rfl (.tail (.tail .head)) rfl trivial rfl rfl ?_
      refine r_seg 11 11 [] [9, 10] (by kernel_rfl) ?_
      refine s1 rfl (det_assign rfl) rfl rfl trivial rfl ?_
      refine s1 rfl (det_assign rfl) rfl rfl trivial rfl ?_
      refine sg_nil ?_
      refine be rfl ?_
      refine k_then ?_
      refine t_ret ?_
      show TK _ _ _ (([(p67, .cells (pev (stayS s.P until_) s.B 8 s.d s.G s.kk s.gk).toArray 125 (0, 0)), (p14, .cells [.pointer (some ⟨p67, 0, none⟩)].toArray 123 (0, 0)), (p6, Obj.cells (psv (stayS s.P until_) s.B 8 s.d).toArray 68 (0, 0))] ++ s.b) ++ [deadO D]) _
      refine ret_mark (pre := ([_, _, _] ++ s.b)) (vs := [_, _, _]) rfl rfl ⟨(.cellN tN68 rfl rfl (.tail _ (.tail _ (.head _))) rfl), (.tmp rfl), (.tmp rfl), trivial⟩ rfl (fun w1 hs => ?_)
      rw [yldR_len] at hP hg
      exact end_fresh (P := Try.prog) (n := 121) (hs.ch rfl rfl) fun F2 h1 h2 h3 => by
        obtain ⟨A9, c9, h0, hn9, hm9, hR9⟩ := hS.rows cmv_len (by decide) (fun p cs t fr k hm => h3 p cs t fr k (by simp [hm]))
        cases h0
        exact ⟨s.B, s.d, s.G, s.kk, s.gk, by rw [← hP]; rfl, by rw [← hg]; exact hR9, hn9⟩
    ·
      rintro D j s hX
      exact hX.elim
end Go.Proofs.Cp

/-
  Walks through layer 38.
-/
namespace Go.Proofs.Cp
open Go Go.Eng Go.Gt Go.Proofs.Gt Go.Sw Go.Qu Go.Ch Go.Po
set_option maxRecDepth 4000
end Go.Proofs.Cp

/-
  Walks through layer 38.
-/
namespace Go.Proofs.Cp
open Go Go.Eng Go.Gt Go.Proofs.Gt Go.Sw Go.Qu Go.Ch Go.Po
set_option maxRecDepth 4000
theorem popen_ok {w : World} {F : Know} (hF : ∀ a v, F a = some v → w.cell? a = some v) {per : Int} : CallsF Try.prog 39 [.int .i64 per] w noK (fun v F2 => ∃ A n k, v = .agg (lnv (opL A n k per)).toArray ∧ LnK F2 (opL A n k per) ∧ n ≤ k) := by
  refine fn_fresh (F := F) Try.func39 rfl Try.ntmps39 rfl hF ?_
  refine t_seq ?_
  refine b0 ?_
  refine om1 rfl (new_alloc z26) rfl rfl trivial (fun p2 => ?_)
  refine be rfl ?_
  refine k_then ?_
  refine t_seq ?_
  refine b0 ?_
  refine o1 rfl (det_build rfl (fun w => bld59_0_1 _ _ w)) rfl rfl trivial ?_
  refine om1 rfl (new_buildSlice rfl (fun w => bsl22_1_0 _ _ w)) rfl rfl trivial (fun p4 => ?_)
  refine o1 rfl (det_build rfl (fun w => bld24_0_1 _ _ _ _ w)) rfl rfl trivial ?_
  refine o1 rfl (det_move rfl) rfl rfl trivial ?_
  refine o1 rfl (det_build rfl (fun w => bld26_0_1 _ _ _ _ _ w)) rfl rfl trivial ?_
  refine stN nofun rfl tN26 rfl rfl rfl (.tail .head) rfl trivial rfl rfl ?_
  refine be rfl ?_
  refine k_then ?_
  refine t_ret ?_
  refine ret_any (vs := [_]) rfl rfl ⟨(.cellN tN26 rfl rfl (.tail _ (.head _)) rfl), trivial⟩ rfl (fun w1 hs => ?_)
  exact end_fresh hs fun F2 _ _ h => ⟨_, _, _, rfl, entK_lit (es := opE) (by decide) fun k u hk => h _ _ _ _ k (.head _) u (by rw [← Array.getElem?_toList]; exact hk), Nat.le_refl _⟩
theorem caps_ok {w : World} {F : Know} (hF : ∀ a v, F a = some v → w.cell? a = some v) {x : Int} (hx : -9223372036854775808 ≤ x ∧ x ≤ 9223372036854775807) : CallsF Try.prog 40 [.int .i64 x] w noK (fun v F2 => ∃ q : Nat, v = .slice (some ⟨q, 0, none⟩) 8 8 ∧ IntsK F2 .i64 (some ⟨q, 0, none⟩) 8 (List.replicate 8 x)) := by
  refine fn_fresh (F := F) Try.func40 rfl Try.ntmps40 rfl hF ?_
  refine t_seq ?_
  refine b0 ?_
  refine o1 rfl (det_assign rfl) rfl rfl trivial ?_
  refine be rfl ?_
  refine k_then ?_
  refine t_seq ?_
  refine b0 ?_
  refine o1 rfl (det_move rfl) rfl rfl trivial ?_
  refine o1 rfl (det_move rfl) rfl rfl trivial ?_
  refine o1 rfl (det_move rfl) rfl rfl trivial ?_
  refine o1 rfl (det_move rfl) rfl rfl trivial ?_
  refine o1 rfl (det_move rfl) rfl rfl trivial ?_
  refine o1 rfl (det_move rfl) rfl rfl trivial ?_
  refine o1 rfl (det_move rfl) rfl rfl trivial ?_
  refine o1 rfl (det_move rfl) rfl rfl trivial ?_
  refine om1 rfl (new_buildSlice rfl (fun w => bsl65_8_0_1_2_3_4_5_6_7 _ _ _ _ _ _ _ _ w)) rfl rfl trivial (fun p11 => ?_)
  refine o1 rfl (det_assign rfl) rfl rfl trivial ?_
  refine be rfl ?_
  refine k_then ?_
  refine t_ret ?_
  refine ret_tmp rfl rfl rfl (fun w1 hs => ?_)
  exact end_fresh hs fun F2 _ _ h => ⟨_, rfl, intsK_lit (xs := List.replicate 8 x) (fun i h => by rw [List.getElem_replicate]; exact hx) fun k u hk => h _ _ _ _ k (.head _) u (by rw [← Array.getElem?_toList]; exact hk)⟩
theorem frameI_ok {w : World} {F : Know} (hF : ∀ a v, F a = some v → w.cell? a = some v) {cc z : Int} : Pure Try.prog 48 [.int .i64 cc, .int .i64 z] w (.agg (itv (frameI cc z)).toArray) := by
  refine fn_pure (F := F) Try.func48 rfl Try.ntmps48 rfl hF ?_
  refine t_seq ?_
  refine b0 ?_
  refine om1 rfl (new_alloc z55) rfl rfl trivial (fun p4 => ?_)
  refine be rfl ?_
  refine k_then ?_
  refine t_seq ?_
  refine b0 ?_
  refine o1 rfl (det_move rfl) rfl rfl trivial ?_
  refine o1 rfl (det_move rfl) rfl rfl trivial ?_
  refine o1 rfl (det_build rfl (fun w => bld55_2_3 _ _ w)) rfl rfl trivial ?_
  refine stN nofun rfl tN55 rfl rfl rfl .head rfl trivial rfl rfl ?_
  refine be rfl ?_
  refine k_then ?_
  refine t_ret ?_
  refine ret_any (vs := [_]) rfl rfl ⟨(.cellN tN55 rfl rfl (.head _) rfl), trivial⟩ rfl (fun w1 hs => ?_)
  exact ⟨rfl, hs.keep⟩
theorem geq_ok {w : World} {F : Know} (hF : ∀ a v, F a = some v → w.cell? a = some v) {A : Option Addr} {n c : Nat} {l : List Cm} (hA : RowsK cmv 6 F A n l) {B : Option Addr} {m d : Nat} (hB : RowsK cmv 6 F B m l) (hn : n ≤ 4611686018427387904) : Pure Try.prog 68 [.slice A n c, .slice B m d] w (.bool true) := by
  have hn1 := hA.len
  have hn2 := hB.len
  refine fn_pure (F := F) Try.func68 rfl Try.ntmps68 rfl hF ?_
  refine t_seq ?_
  refine b0 ?_
  refine o1 rfl (det_assign rfl) rfl rfl trivial ?_
  refine be rfl ?_
  refine k_then ?_
  refine t_seq ?_
  refine t_seq ?_
  refine b0 ?_
  refine o1 rfl (det_move rfl) rfl rfl trivial ?_
  refine o1 rfl (det_lenS sl83 rfl) rfl rfl trivial ?_
  refine o1 rfl (det_move rfl) rfl rfl trivial ?_
  refine o1 rfl (det_lenS sl83 rfl) rfl rfl trivial ?_
  refine o1 rfl (det_neq rfl rfl) rfl rfl trivial ?_
  refine be rfl ?_
  refine k_then ?_
  refine t_condP bne_iff_ne rfl (fun hb => ?_) (fun hb => ?_)
  · exfalso; omega
  refine t_skip ?_
  refine k_then ?_
  refine t_seq ?_
  refine t_seq ?_
  refine b0 ?_
  refine o1 rfl (det_move rfl) rfl rfl trivial ?_
  refine o1 rfl (det_lenS sl83 rfl) rfl rfl trivial ?_
  refine o1 rfl (det_move rfl) rfl rfl trivial ?_
  refine be rfl ?_
  refine k_then ?_
  refine t_block ?_
  refine t_whileM (σ := Nat) (fun s => [(13, .int .i64 (s : Int))]) (fun _ => _) (fun s => n - s) (fun s => s ≤ n) 0 (env0 := [(0, _), (1, _), (12, _)]) (Nat.zero_le _) ⟨rfl, trivial⟩ ⟨rfl, rfl, rfl, trivial⟩ (.refl _) ?_
  intro s hsn
  refine t_seq ?_
  refine b0 ?_
  refine o1 rfl (det_lss rfl rfl) rfl rfl trivial ?_
  refine be rfl ?_
  refine k_then ?_
  refine t_seq ?_
  refine t_condP decide_eq_true_iff rfl (fun hb => ?_) (fun hb => ?_)
  ·
    have hlt : s < l.length := by omega
    obtain ⟨A, rfl⟩ := hA.some hlt
    obtain ⟨B, rfl⟩ := hB.some hlt
    refine t_skip ?_
    refine k_then ?_
    refine t_seq ?_
    refine t_block ?_
    refine t_seq ?_
    refine b0 ?_
    refine o1 rfl (det_move rfl) rfl rfl trivial ?_
    refine o1 rfl (det_assign rfl) rfl rfl trivial ?_
    refine be rfl ?_
    refine k_then ?_
    refine t_seq ?_
    refine bD mixed ?_
    refine r_seg 9 9 [] [0, 1, 2, 3, 4, 5, 6, 7, 8] (by kernel_rfl) ?_
    refine s1 rfl (det_move rfl) rfl rfl trivial rfl ?_
    refine s1 rfl (det_move rfl) rfl rfl trivial rfl ?_
    first | (refine s1 rfl (det_indexAddr sl83 rfl rfl ?_) rfl rfl trivial rfl ?_; (· (first | decide | omega)))
    refine s1 rfl (det_loadKN tN88 rfl (cmv_len l[s]) (hA.cells (i := (s : Int)) (k := s) (Int.toNat_natCast s) hlt (cmv_len _))) rfl rfl trivial rfl ?_
    refine s1 rfl (det_move rfl) rfl rfl trivial rfl ?_
    refine s1 rfl (det_move rfl) rfl rfl trivial rfl ?_
    first | (refine s1 rfl (det_indexAddr sl83 rfl rfl ?_) rfl rfl trivial rfl ?_; (· (first | decide | omega)))
    refine s1 rfl (det_loadKN tN88 rfl (cmv_len l[s]) (hB.cells (i := (s : Int)) (k := s) (Int.toNat_natCast s) hlt (cmv_len _))) rfl rfl trivial rfl ?_
    refine s1 rfl (det_neqS rfl rfl eqg88 (fun w => eq88 _ _ _ _ _ _ _ _ _ _ _ _ w)) rfl rfl trivial rfl ?_
    refine sg_nil ?_
    refine be rfl ?_
    refine k_then ?_
    refine t_condP Iff.rfl rfl (fun hb => ?_) (fun hb => ?_)
    · exfalso; simp at hb
    refine t_skip ?_
    refine k_blk ?_
    refine k_then ?_
    refine b0 ?_
    first | (refine o1 rfl (det_addI rfl rfl ?_) rfl rfl trivial ?_; (· omega)) | refine o1 rfl (det_add rfl rfl) rfl rfl trivial ?_
    refine o1 rfl (det_move rfl) rfl rfl trivial ?_
    refine be rfl ?_
    refine k_then ?_
    refine loop_back (s + 1) (by omega) (by omega) ⟨rfl, rfl, rfl, rfl, trivial⟩ (.refl _)
  ·
    skip
    refine t_exit ?_
    refine k_thenE ?_
    refine k_thenE ?_
    refine k_blkE ?_
    refine k_then ?_
    refine t_seq ?_
    refine b0 ?_
    refine o1 rfl (det_assign rfl) rfl rfl trivial ?_
    refine be rfl ?_
    refine k_then ?_
    refine t_ret ?_
    refine ret_tmp rfl rfl rfl (fun w1 hs => ?_)
    exact ⟨by simp, hs.keep⟩
end Go.Proofs.Cp

/-
  Walks through layer 38.
-/
namespace Go.Proofs.Cp
open Go Go.Eng Go.Gt Go.Proofs.Gt Go.Sw Go.Qu Go.Ch Go.Po
set_option maxRecDepth 4000
theorem pnew_at {w : World} {F : Know} (hF : ∀ a v, F a = some v → w.cell? a = some v) {l : Ln} (hl : LnK F l) (hln : l.g.n ≤ l.g.cap) {A : Option Addr} {n c : Nat} {xs : List Int} (hI : IntsK F .i64 A n xs) (hnb : n ≤ 1000000) {p2 : Ps} {y : Int} (e : newS l xs = (p2, y)) : CallsF Try.prog 34 [.agg (lnv l).toArray, .slice A n c] w F (fun v F2 => ∃ B2 m2 d2 ms2, v = .tuple [.agg (psv p2 B2 m2 d2).toArray, .int .i64 y].toArray ∧ PsK F2 p2 B2 m2 d2 ms2) := by
  have h := pnew_ok hF hl hln hI hnb (c := c)
  rw [e] at h
  exact h
theorem arrive_at {w : World} {F : Know} (hF : ∀ a v, F a = some v → w.cell? a = some v) {p : Ps} {B : Option Addr} {m d : Nat} {ms : List Qm} (hK : PsK F p B m d ms) {t : Int} {x : It} {p2 : Ps} {b : Bool} {y : Int} (e : arriveA p t x = (p2, b, y)) : CallsF Try.prog 45 [.agg (psv p B m d).toArray, .int .i64 t, .agg (itv x).toArray] w F (fun v F2 => ∃ B2 m2 d2 ms2, v = .tuple [.agg (psv p2 B2 m2 d2).toArray, .bool b, .int .i64 y].toArray ∧ PsK F2 p2 B2 m2 d2 ms2) := by
  have h := arrive_ok hF hK (t := t) (x := x)
  rw [e] at h
  exact h
theorem end_at {w : World} {F : Know} (hF : ∀ a v, F a = some v → w.cell? a = some v) {p : Ps} {B : Option Addr} {m d : Nat} {ms : List Qm} (hK : PsK F p B m d ms) {t : Int} {p2 : Ps} {i : It} {b : Bool} {y : Int} (e : endA p t = (p2, i, b, y)) : CallsF Try.prog 44 [.agg (psv p B m d).toArray, .int .i64 t] w F (fun v F2 => ∃ B2 m2 d2 ms2, v = .tuple [.agg (psv p2 B2 m2 d2).toArray, .agg (itv i).toArray, .bool b, .int .i64 y].toArray ∧ PsK F2 p2 B2 m2 d2 ms2) := by
  have h := end_ok hF hK (t := t)
  rw [e] at h
  exact h
theorem choose_at {w : World} {F : Know} (hF : ∀ a v, F a = some v → w.cell? a = some v) {p : Ps} {B : Option Addr} {m d : Nat} {ms : List Qm} (hK : PsK F p B m d ms) {t : Int} {p2 : Ps} {y : Int} (e : chooseA p t = (p2, y)) : CallsF Try.prog 46 [.agg (psv p B m d).toArray, .int .i64 t] w F (fun v F2 => ∃ B2 m2 d2 ms2, v = .tuple [.agg (psv p2 B2 m2 d2).toArray, .int .i64 y].toArray ∧ PsK F2 p2 B2 m2 d2 ms2) := by
  have h := choose_ok hF hK (t := t)
  rw [e] at h
  exact h
theorem next_at {w : World} {F : Know} (hF : ∀ a v, F a = some v → w.cell? a = some v) {p : Ps} {B : Option Addr} {m d : Nat} {ms : List Qm} (hK : PsK F p B m d ms) {x y : Int} (e : nextA p = (x, y)) : Pure Try.prog 43 [.agg (psv p B m d).toArray] w (.tuple [.int .i64 x, .int .i64 y].toArray) := by
  have h := next_ok hF hK
  rw [e] at h
  exact h
theorem pcheck_at {w : World} {F : Know} (hF : ∀ a v, F a = some v → w.cell? a = some v) {p : Ps} {B : Option Addr} {m d : Nat} {ms : List Qm} (hK : PsK F p B m d ms) {x : Int} (e : (if checkB p then (0 : Int) else 480) = x) : Pure Try.prog 37 [.agg (psv p B m d).toArray] w (.int .i64 x) := by rw [← e]; exact pcheck_ok hF hK
theorem run_at {w : World} {F : Know} (hF : ∀ a v, F a = some v → w.cell? a = some v) {p : Ps} {B : Option Addr} {d : Nat} {ms : List Qm} (hK0 : PsK F p B 8 d ms) {A : Option Addr} {n c M : Nat} {l : List Cm} {until_ : Int} (hRl : RowsK cmv 6 F A n l) (hnc : n ≤ c) (hns : n ≤ 4611686018427387904) (hchk : checkB p = true) (hun : p.now ≤ until_ ∧ until_ ≤ 549755813888) (hco : ComeOk p.now until_ l) (hM : ∀ k, k < M → goR until_ (stR (trS p l) k) = true) (hE : goR until_ (stR (trS p l) M) = false) (hM6 : M ≤ 1000000) {p2 : Ps} {gl : List Cm} (e1 : stayS (stR (trS p l) M).p until_ = p2) (e2 : (stR (trS p l) M).g = gl) : CallsF Try.prog 41 [.agg (psv p B 8 d).toArray, .slice A n c, .int .i64 until_] w noK (fun v F2 => ∃ B2 d2 G2 k2 gk2, v = .tuple [.agg (psv p2 B2 8 d2).toArray, .slice G2 k2 gk2, .int .i64 0].toArray ∧ RowsK cmv 6 F2 G2 k2 gl ∧ k2 ≤ gk2) := by
  have h := prun_g hF hK0 hRl hnc hns hchk hun hco (fun k hk => by rw [goR_eq (tr_eq k)]; exact hM k hk) (by rw [goR_eq (tr_eq M)]; exact hE) hM6
  rw [(tr_eq M).p, (tr_eq M).g, e1, e2] at h
  exact h
theorem own_rowsC {F2 : Know} {p : Nat} {T : TypeId} {cs : Array Value} {l : List Cm} (h : ∀ a u, a.block = p → objCell a (.cells cs T (0, 0)) = some u → F2 a = some u) (hc : cs = (rowsV cmv l).toArray) : RowsK cmv 6 F2 (some ⟨p, 0, none⟩) l.length l :=
  rowsK_of cmv_len (by decide) (fun j u hj => ⟨_, rfl, by rw [add_mk, Nat.zero_add]; exact h _ u rfl (by rw [hc]; simp [objCell, hj])⟩) rfl
theorem sat_rowsC {cx : Cx} {F : Know} {own : Own} {w : World} (hs : Sat cx F own w) {q : Nat} {cs : Array Value} {T : TypeId} {l : List Cm} (hm : (q, Obj.cells cs T (0, 0)) ∈ own) (hc : cs = (rowsV cmv l).toArray) : RowsK cmv 6 (fun a => w.cell? a) (some ⟨q, 0, none⟩) l.length l :=
  rowsK_of cmv_len (by decide) (fun j u hj => ⟨_, rfl, by rw [add_mk, Nat.zero_add]; exact satC hs (cs := rowsV cmv l) (T := T) (by rw [← hc]; exact hm) j hj⟩) rfl
end Go.Proofs.Cp

/-
  Walks through layer 38.
-/
namespace Go.Proofs.Cp
open Go Go.Eng Go.Gt Go.Proofs.Gt Go.Sw Go.Qu Go.Ch Go.Po
set_option maxRecDepth 4000
theorem pwakes_ok {w : World} {F : Know} (hF : ∀ a v, F a = some v → w.cell? a = some v)  : Pure Try.prog 33 [] w (.bool true) := by
  refine fn_pure (F := F) Try.func33 rfl Try.ntmps33 rfl hF ?_
  refine t_seq ?_
  refine b0 ?_
  refine o1 rfl (det_assign rfl) rfl rfl trivial ?_
  refine be rfl ?_
  refine k_then ?_
  refine t_seq ?_
  refine b0 ?_
  refine oF nofun rfl hb39 rfl rfl rfl trivial (fun w1 hs => (popen_ok hs.know (per := 1)).any) (fun v1 F1 hF1 hNF1 ⟨A1, n1, k1, hv1, hl1, hnk1⟩ => ?_)
  subst hv1
  refine oF nofun rfl hb40 rfl rfl rfl trivial (fun w1 hs => (caps_ok hs.know (x := 1000) (by omega)).any) (fun v2 F2 hF2 hNF2 ⟨q2, hv2, hI2⟩ => ?_)
  subst hv2
  replace hl1 : LnK F2 (opL A1 n1 k1 1) := EntK.mono hl1 hF2
  refine oF nofun rfl hb34 rfl rfl rfl trivial (fun w1 hs => pnew_at (y := 0) (p2 := pW0 (opL A1 n1 k1 1)) hs.know hl1 hnk1 hI2 (by decide) (by kernel_rfl)) (fun v21 F3 hF3 hNF3 ⟨B21, m21, d21, ms21, hv21, hK21⟩ => ?_)
  subst hv21
  obtain rfl : m21 = 8 := by have h1 := hK21.len; have h2 : (pW0 (opL A1 n1 k1 1)).qs.length = 8 := (by kernel_rfl); omega
  refine o1 rfl (det_move rfl) rfl rfl trivial ?_
  refine o1 rfl (det_extract rfl rfl) rfl rfl trivial ?_
  refine o1 rfl (det_extract rfl rfl) rfl rfl trivial ?_
  refine om1 rfl (new_alloc z68) rfl rfl trivial (fun p1 => ?_)
  refine stN nofun rfl tN68 rfl rfl rfl .head rfl trivial rfl rfl ?_
  refine o1 rfl (det_assign rfl) rfl rfl trivial ?_
  refine be rfl ?_
  refine k_then ?_
  refine t_seq ?_
  refine bD mixed ?_
  refine r_force 9 12 (by kernel_rfl) ?_
  refine r_force 10 12 (by kernel_rfl) ?_
  refine r_segF 15 12 [5, 11] [(6, Go.Eng.Told F3 (fun v F2 => ∃ B2 d2 G2 k2 gk2, v = .tuple [.agg (psv (stayS (stR (sW (opL A1 n1 k1 1)) 5).p 1000) B2 8 d2).toArray, .slice G2 k2 gk2, .int .i64 0].toArray ∧ RowsK cmv 6 F2 G2 k2 goneW ∧ k2 ≤ gk2))] [0, 1, 2, 3, 4, 5, 6, 7, 8, 9, 10, 11] (by kernel_rfl) ?_
  refine s1 rfl (det_loadN tN68 rfl rfl (.head _) rfl) rfl rfl trivial rfl ?_
  refine s1 rfl (det_call hb48 rfl rfl (fun w1 hs => frameI_ok hs.know)) rfl rfl trivial rfl ?_
  refine s1 rfl (det_build rfl (fun w => bld89_0_1 _ _ _ _ _ _ w)) rfl rfl trivial rfl ?_
  refine s1 rfl (det_call hb48 rfl rfl (fun w1 hs => frameI_ok hs.know)) rfl rfl trivial rfl ?_
  refine s1 rfl (det_build rfl (fun w => bld89_0_1 _ _ _ _ _ _ w)) rfl rfl trivial rfl ?_
  refine sm1 rfl (new_buildSlice rfl (fun w => bsl78_2_0_1 _ _ _ _ _ _ _ _ _ _ _ _ w)) rfl rfl trivial rfl (fun p30 => ?_)
  refine sM [_] (needC (.head _) rfl need0) rfl (fun F2 hF2 hN => mem_call hF2 hb41 rfl rfl (fun w1 hs => (run_at hs.know (hK21.mono hF2) (own_rowsC (l := comeW) (hN _ (.head _)) rfl) (Nat.le_refl _) (by decide) (M := 5) (by kernel_rfl) (by have h : (pW0 (opL A1 n1 k1 1)).now = 0 := (by kernel_rfl); rw [h]; decide) (comeOk_of (by kernel_rfl)) (goR_all (by kernel_rfl)) (by kernel_rfl) (by decide) (p2 := stayS (stR (sW (opL A1 n1 k1 1)) 5).p 1000) (gl := goneW) rfl (by kernel_rfl)).any)) rfl rfl trivial rfl (fun v31 hv31 => ?_)
  obtain ⟨_, B_31, d_31, G_31, k_31, gk_31, rfl, -⟩ := hv31
  refine s1 rfl (det_move rfl) rfl rfl trivial rfl ?_
  refine s1 rfl (det_extract rfl rfl) rfl rfl trivial rfl ?_
  refine s1 rfl (det_extract rfl rfl) rfl rfl trivial rfl ?_
  refine s1 rfl (det_extract rfl rfl) rfl rfl trivial rfl ?_
  refine sm1 rfl (new_alloc z68) rfl rfl trivial rfl (fun p3 => ?_)
  refine sg_nil ?_
  rintro F_2_12 hF_2_12 hN_2_12 ⟨hR31, -⟩
  obtain ⟨B31, d31, G31, k31, gk31, h_31, hG31, hk31⟩ := hR31
  obtain ⟨⟨rfl, -, rfl⟩, rfl, rfl, rfl⟩ := run_inj h_31
  replace hK21 := hK21.mono hF_2_12
  refine stN (fun _ => by kernel_rfl) rfl tN68 rfl rfl rfl .head rfl trivial rfl rfl ?_
  refine r_seg 15 15 [] [13, 14] (by kernel_rfl) ?_
  refine s1 rfl (det_assign rfl) rfl rfl trivial rfl ?_
  refine s1 rfl (det_assign rfl) rfl rfl trivial rfl ?_
  refine sg_nil ?_
  refine be rfl ?_
  refine np ?_
  refine np ?_
  refine k_then ?_
  refine t_seq ?_
  refine bD mixed ?_
  refine r_force 5 8 (by kernel_rfl) ?_
  refine r_force 6 8 (by kernel_rfl) ?_
  refine r_segF 11 8 [7] [(2, Go.Eng.Told F_2_12 (fun v F2 => ∃ B2 m2 d2 ms2, v = .tuple [.agg (psv (pW1 (opL A1 n1 k1 1)) B2 m2 d2).toArray, .bool true, .int .i64 0].toArray ∧ PsK F2 (pW1 (opL A1 n1 k1 1)) B2 m2 d2 ms2))] [0, 1, 2, 3, 4, 5, 6, 7] (by kernel_rfl) ?_
  refine s1 rfl (det_loadN tN68 rfl rfl (.tail _ (.tail _ (.head _))) rfl) rfl rfl trivial rfl ?_
  refine s1 rfl (det_call hb48 rfl rfl (fun w1 hs => frameI_ok hs.know)) rfl rfl trivial rfl ?_
  refine sM [] need0 rfl (fun F2 hF2 hN => mem_call hF2 hb45 rfl rfl (fun w1 hs => arrive_at (p := pW0 (opL A1 n1 k1 1)) (x := fA) (t := 0) (p2 := pW1 (opL A1 n1 k1 1)) (b := true) (y := 0) (fun a v h => hs.know a v (hF2 a v h)) hK21 (by kernel_rfl))) rfl rfl trivial rfl (fun v38 hv38 => ?_)
  obtain ⟨_, B_38, m_38, d_38, ms_38, rfl, -⟩ := hv38
  refine s1 rfl (det_move rfl) rfl rfl trivial rfl ?_
  refine s1 rfl (det_extract rfl rfl) rfl rfl trivial rfl ?_
  refine s1 rfl (det_extract rfl rfl) rfl rfl trivial rfl ?_
  refine s1 rfl (det_extract rfl rfl) rfl rfl trivial rfl ?_
  refine sm1 rfl (new_alloc z68) rfl rfl trivial rfl (fun p6 => ?_)
  refine sg_nil ?_
  rintro F_3_8 hF_3_8 hN_3_8 ⟨hR38, -⟩
  obtain ⟨B38, m38, d38, ms38, h_38, hK38⟩ := hR38
  obtain ⟨rfl, rfl, rfl⟩ := tup_inj h_38
  replace hK21 := hK21.mono hF_3_8
  replace hG31 := hG31.mono hF_3_8
  refine stN (fun _ => by kernel_rfl) rfl tN68 rfl rfl rfl .head rfl trivial rfl rfl ?_
  refine r_seg 11 11 [] [9, 10] (by kernel_rfl) ?_
  refine s1 rfl (det_assign rfl) rfl rfl trivial rfl ?_
  refine s1 rfl (det_assign rfl) rfl rfl trivial rfl ?_
  refine sg_nil ?_
  refine be rfl ?_
  refine np ?_
  refine np ?_
  refine k_then ?_
  refine t_seq ?_
  refine b0 ?_
  refine o1 rfl (det_loadN tN68 rfl rfl (.head _) rfl) rfl rfl trivial ?_
  refine oF nofun rfl hb46 rfl rfl rfl trivial (fun w1 hs => choose_at (p := pW1 (opL A1 n1 k1 1)) (p2 := pW2 (opL A1 n1 k1 1)) (t := 0) (y := 0) hs.know hK38 (by kernel_rfl)) (fun v44 F5 hF5 hNF5 ⟨B44, m44, d44, ms44, hv44, hK44⟩ => ?_)
  subst hv44
  replace hK21 := hK21.mono hF5
  replace hG31 := hG31.mono hF5
  refine o1 rfl (det_move rfl) rfl rfl trivial ?_
  refine o1 rfl (det_extract rfl rfl) rfl rfl trivial ?_
  refine o1 rfl (det_extract rfl rfl) rfl rfl trivial ?_
  refine om1 rfl (new_alloc z68) rfl rfl trivial (fun p9 => ?_)
  refine stN nofun rfl tN68 rfl rfl rfl .head rfl trivial rfl rfl ?_
  refine o1 rfl (det_assign rfl) rfl rfl trivial ?_
  refine be rfl ?_
  refine k_then ?_
  refine t_seq ?_
  refine b0 ?_
  refine o1 rfl (det_loadN tN68 rfl rfl (.head _) rfl) rfl rfl trivial ?_
  refine o1 rfl (det_call hb43 rfl rfl (fun w1 hs => next_at (x := 200) (y := 0) hs.know hK44 (by kernel_rfl))) rfl rfl trivial ?_
  refine o1 rfl (det_move rfl) rfl rfl trivial ?_
  refine o1 rfl (det_extract rfl rfl) rfl rfl trivial ?_
  refine o1 rfl (det_extract rfl rfl) rfl rfl trivial ?_
  refine o1 rfl (det_assign rfl) rfl rfl trivial ?_
  refine o1 rfl (det_assign rfl) rfl rfl trivial ?_
  refine be rfl ?_
  refine k_then ?_
  refine t_seq ?_
  refine b0 ?_
  refine o1 rfl (det_loadN tN68 rfl rfl (.tail _ (.tail _ (.tail _ (.tail _ (.head _))))) rfl) rfl rfl trivial ?_
  refine oF nofun rfl hb44 rfl rfl rfl trivial (fun w1 hs => end_at (p2 := zeroP) (i := dIt) (b := false) (t := 1) (y := 2) hs.know hK21 (by kernel_rfl)) (fun v54 F6 hF6 hNF6 ⟨B54, m54, d54, ms54, hv54, hK54⟩ => ?_)
  subst hv54
  replace hG31 := hG31.mono hF6
  refine o1 rfl (det_move rfl) rfl rfl trivial ?_
  refine o1 rfl (det_extract rfl rfl) rfl rfl trivial ?_
  refine o1 rfl (det_extract rfl rfl) rfl rfl trivial ?_
  refine o1 rfl (det_extract rfl rfl) rfl rfl trivial ?_
  refine o1 rfl (det_extract rfl rfl) rfl rfl trivial ?_
  refine om1 rfl (new_alloc z68) rfl rfl trivial (fun p13 => ?_)
  refine om1 rfl (new_alloc z55) rfl rfl trivial (fun p14 => ?_)
  refine stN nofun rfl tN68 rfl rfl rfl (.tail .head) rfl trivial rfl rfl ?_
  refine stN nofun rfl tN55 rfl rfl rfl .head rfl trivial rfl rfl ?_
  refine o1 rfl (det_assign rfl) rfl rfl trivial ?_
  refine o1 rfl (det_assign rfl) rfl rfl trivial ?_
  refine be rfl ?_
  refine k_then ?_
  refine t_seq ?_
  refine b0 ?_
  refine o1 rfl (det_move rfl) rfl rfl trivial ?_
  refine o1 rfl (det_eql rfl rfl) rfl rfl trivial ?_
  refine o2P beq_iff_eq rfl (det_move rfl) rfl rfl trivial (fun hb => ?_) (fun hb => ?_)
  rotate_left
  · exfalso; first | exact hb rfl | (simp at hb; done) | (revert hb; decide)
  refine o1 rfl (det_move rfl) rfl rfl ⟨_, rfl, rfl⟩ ?_
  refine o1 rfl (det_eql rfl rfl) rfl rfl ⟨_, rfl, rfl⟩ ?_
  refine o1 rfl (det_pickT rfl rfl) rfl rfl trivial ?_
  refine o2P beq_iff_eq rfl (det_move rfl) rfl rfl trivial (fun hb => ?_) (fun hb => ?_)
  rotate_left
  · exfalso; first | exact hb rfl | (simp at hb; done) | (revert hb; decide)
  refine o1 rfl (det_move rfl) rfl rfl ⟨_, rfl, rfl⟩ ?_
  refine o1 rfl (det_eql rfl rfl) rfl rfl ⟨_, rfl, rfl⟩ ?_
  refine o1 rfl (det_pickT rfl rfl) rfl rfl trivial ?_
  refine o2P beq_iff_eq rfl (det_move rfl) rfl rfl trivial (fun hb => ?_) (fun hb => ?_)
  rotate_left
  · exfalso; first | exact hb rfl | (simp at hb; done) | (revert hb; decide)
  refine o1 rfl (det_move rfl) rfl rfl ⟨_, rfl, rfl⟩ ?_
  refine o1 rfl (det_eql rfl rfl) rfl rfl ⟨_, rfl, rfl⟩ ?_
  refine o1 rfl (det_pickT rfl rfl) rfl rfl trivial ?_
  refine o2P beq_iff_eq rfl (det_move rfl) rfl rfl trivial (fun hb => ?_) (fun hb => ?_)
  rotate_left
  · exfalso; first | exact hb rfl | (simp at hb; done) | (revert hb; decide)
  refine o1 rfl (det_move rfl) rfl rfl ⟨_, rfl, rfl⟩ ?_
  refine o1 rfl (det_eql rfl rfl) rfl rfl ⟨_, rfl, rfl⟩ ?_
  refine o1 rfl (det_pickT rfl rfl) rfl rfl trivial ?_
  refine o1 rfl (det_assign rfl) rfl rfl trivial ?_
  refine be rfl ?_
  refine k_then ?_
  refine t_seq ?_
  refine b0 ?_
  refine o1 rfl (det_move rfl) rfl rfl trivial ?_
  refine o2P beq_iff_eq rfl (det_move rfl) rfl rfl trivial (fun hb => ?_) (fun hb => ?_)
  rotate_left
  · exfalso; first | exact hb rfl | (simp at hb; done) | (revert hb; decide)
  refine o1 rfl (det_move rfl) rfl rfl ⟨_, rfl, rfl⟩ ?_
  refine o1 rfl (det_call hb48 rfl rfl (fun w1 hs => frameI_ok hs.know)) rfl rfl ⟨_, rfl, rfl⟩ ?_
  refine o1 rfl (det_build rfl (fun w => bld88_0_1 _ _ _ _ _ _ w)) rfl rfl ⟨_, rfl, rfl⟩ ?_
  refine o1 rfl (det_call hb48 rfl rfl (fun w1 hs => frameI_ok hs.know)) rfl rfl ⟨_, rfl, rfl⟩ ?_
  refine o1 rfl (det_build rfl (fun w => bld88_0_1 _ _ _ _ _ _ w)) rfl rfl ⟨_, rfl, rfl⟩ ?_
  refine om1 rfl (new_buildSlice rfl (fun w => bsl83_2_0_1 _ _ _ _ _ _ _ _ _ _ _ _ w)) rfl rfl ⟨_, rfl, rfl⟩ (fun p84 => ?_)
  refine o1 rfl (det_call hb68 rfl rfl (fun w1 hs => geq_ok (F := fun a => w1.cell? a) (fun _ _ h => h) (hG31.mono hs.know) (sat_rowsC (l := goneW) hs (.head _) rfl) (by have := hG31.len; rw [this]; decide))) rfl rfl ⟨_, rfl, rfl⟩ ?_
  refine o1 rfl (det_pickT rfl rfl) rfl rfl trivial ?_
  refine o1 rfl (det_move rfl) rfl rfl trivial ?_
  refine o1 rfl (det_fieldAddr fld68_1 rfl) rfl rfl ⟨_, rfl, rfl⟩ ?_
  refine o1 rfl (det_load1 t1_3 rfl rfl (.tail _ (.tail _ (.tail _ (.tail _ (.tail _ (.head _)))))) rfl) rfl rfl ⟨_, rfl, rfl⟩ ?_
  refine o1 rfl (det_eql rfl rfl) rfl rfl ⟨_, rfl, rfl⟩ ?_
  refine o1 rfl (det_pickT rfl rfl) rfl rfl trivial ?_
  refine o2P beq_iff_eq rfl (det_move rfl) rfl rfl trivial (fun hb => ?_) (fun hb => ?_)
  rotate_left
  · exfalso; first | exact hb rfl | (simp at hb; done) | (revert hb; decide)
  refine o1 rfl (det_move rfl) rfl rfl ⟨_, rfl, rfl⟩ ?_
  refine o1 rfl (det_pickT rfl rfl) rfl rfl trivial ?_
  refine o2P Iff.rfl rfl (det_move rfl) rfl rfl trivial (fun hb => ?_) (fun hb => ?_)
  rotate_left
  · exfalso; first | exact hb rfl | (simp at hb; done) | (revert hb; decide)
  refine o1 rfl (det_fieldAddr fld68_3 rfl) rfl rfl ⟨_, rfl, rfl⟩ ?_
  refine o1 rfl (det_load1 t1_4 rfl rfl (.tail _ (.tail _ (.tail _ (.head _)))) rfl) rfl rfl ⟨_, rfl, rfl⟩ ?_
  refine o1 rfl (det_pickT rfl rfl) rfl rfl trivial ?_
  refine o2P Iff.rfl rfl (det_move rfl) rfl rfl trivial (fun hb => ?_) (fun hb => ?_)
  rotate_left
  · exfalso; exact hb (by kernel_rfl)
  refine o1 rfl (det_move rfl) rfl rfl ⟨_, rfl, rfl⟩ ?_
  refine o1 rfl (det_eql rfl rfl) rfl rfl ⟨_, rfl, rfl⟩ ?_
  refine o1 rfl (det_pickT rfl rfl) rfl rfl trivial ?_
  refine o2P beq_iff_eq rfl (det_move rfl) rfl rfl trivial (fun hb => ?_) (fun hb => ?_)
  rotate_left
  · exfalso; first | exact hb rfl | (simp at hb; done) | (revert hb; decide)
  refine o1 rfl (det_move rfl) rfl rfl ⟨_, rfl, rfl⟩ ?_
  refine o1 rfl (det_eql rfl rfl) rfl rfl ⟨_, rfl, rfl⟩ ?_
  refine o1 rfl (det_pickT rfl rfl) rfl rfl trivial ?_
  refine o2P beq_iff_eq rfl (det_move rfl) rfl rfl trivial (fun hb => ?_) (fun hb => ?_)
  rotate_left
  · exfalso; first | exact hb rfl | (simp at hb; done) | (revert hb; decide)
  refine o1 rfl (det_build rfl (fun w => bld68_ w)) rfl rfl ⟨_, rfl, rfl⟩ ?_
  refine o1 rfl (det_call hb37 rfl rfl (fun w1 hs => pcheck_at (p := zeroP) (x := 480) hs.know (zero_k _) (by kernel_rfl))) rfl rfl ⟨_, rfl, rfl⟩ ?_
  refine o1 rfl (det_eql rfl rfl) rfl rfl ⟨_, rfl, rfl⟩ ?_
  refine o1 rfl (det_pickT rfl rfl) rfl rfl trivial ?_
  refine o1 rfl (det_assign rfl) rfl rfl trivial ?_
  refine be rfl ?_
  refine k_then ?_
  refine t_ret ?_
  refine ret_tmp rfl rfl rfl (fun w1 hs => ?_)
  exact ⟨rfl, hs.keep⟩
end Go.Proofs.Cp
