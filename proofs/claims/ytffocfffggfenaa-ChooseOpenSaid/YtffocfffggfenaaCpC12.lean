/-
  Walks through layers 36, 37 and 38 and their references.
-/
import Derived.Test.YtffocfffggfenaaCpC11
namespace Go.Proofs.Cp
open Go Go.Eng Go.Gt Go.Proofs.Gt Go.Sw Go.Qu Go.Ch
set_option maxRecDepth 4000

/-- When. -/
theorem when_ok {w : World} {F : Know} (hF : ∀ a v, F a = some v → w.cell? a = some v) {l : Ln} (hl : LnK F l) {A : Option Addr} {n c : Nat} {hs0 : List Pt} (hP : PK F A n hs0) (hnb : n ≤ 100000) {t : Int} : Pure Try.prog 26 [.agg (lnv l).toArray, .slice A n c, .int .i64 t] w (.tuple [.int .i64 (whenA l hs0 t).1, .int .i64 (whenA l hs0 t).2].toArray) := by
  refine fn_pure (F := F) Try.func26 rfl Try.ntmps26 rfl hF ?_
  refine t_seq ?_
  refine b0 ?_
  refine om1 rfl (new_boxN rfl) rfl rfl trivial (fun p3 => ?_)
  refine om1 rfl (new_box1 rfl rfl) rfl rfl trivial (fun p5 => ?_)
  refine o1 rfl (det_assign rfl) rfl rfl trivial ?_
  refine o1 rfl (det_assign rfl) rfl rfl trivial ?_
  refine be rfl ?_
  refine k_then ?_
  refine t_seq ?_
  refine t_seq ?_
  refine b0 ?_
  refine o1 rfl (det_loadN tN26 rfl rfl (.tail _ (.head _)) rfl) rfl rfl trivial ?_
  refine o1 rfl (det_move rfl) rfl rfl trivial ?_
  refine o1 rfl (det_load1 t1_3 rfl rfl (.head _) rfl) rfl rfl trivial ?_
  refine o1 rfl (det_call hb56 rfl rfl (fun w1 hs => cvalid_ok hs.know hl hP hnb)) rfl rfl trivial ?_
  refine o1 rfl (det_assign rfl) rfl rfl trivial ?_
  refine be rfl ?_
  refine k_then ?_
  refine t_seq ?_
  refine b0 ?_
  refine o1 rfl (det_move rfl) rfl rfl trivial ?_
  refine o1 rfl (det_neq rfl rfl) rfl rfl trivial ?_
  refine be rfl ?_
  refine k_then ?_
  refine t_condP bne_iff_ne rfl (fun hb => ?_) (fun hb => ?_)
  ·
    have he : errC l hs0 t ≠ 0 := hb
    refine t_seq ?_
    refine b0 ?_
    refine o1 rfl (det_move rfl) rfl rfl trivial ?_
    refine o1 rfl (det_assign rfl) rfl rfl trivial ?_
    refine o1 rfl (det_assign rfl) rfl rfl trivial ?_
    refine be rfl ?_
    refine k_then ?_
    refine t_ret (k_thenR (?_))
    refine ret_tmp2 rfl rfl rfl rfl (fun w1 hs => ?_)
    first
    | exact ⟨by unfold whenA; rw [if_pos he], hs.keep⟩
    | exact ⟨by unfold whenA; rw [if_neg (by simp [he])], hs.keep⟩
  ·
    have he : errC l hs0 t = 0 := by simpa using hb
    obtain ⟨hL, hH, ht⟩ := errC_zero he
    have hLp := okL_parts hL
    have h8 := (okH_parts hH).1
    refine t_skip ?_
    refine k_then ?_
    refine t_seq ?_
    refine b0 ?_
    refine o1 rfl (det_loadN tN26 rfl rfl (.tail _ (.head _)) rfl) rfl rfl trivial ?_
    refine o1 rfl (det_move rfl) rfl rfl trivial ?_
    refine o1 rfl (det_build rfl (fun w => bld107_0_1 _ _ _ _ _ _ _ _ _ w)) rfl rfl trivial ?_
    refine om1 rfl (new_alloc z107) rfl rfl trivial (fun p9 => ?_)
    refine stN nofun rfl tN107 rfl rfl rfl .head rfl trivial rfl rfl ?_
    refine be rfl ?_
    refine k_then ?_
    refine t_seq ?_
    refine b0 ?_
    refine tk_freeze (pre := []) rfl (fun Fc hFc hNFc hKFc => ?_)
    refine tk_freeze (pre := []) rfl (fun Fb hFb hNFb hKFb => ?_)
    refine tk_freeze (pre := []) rfl (fun Fa hFa hNFa hKFa => ?_)
    have h5 : Fa ⟨p5, 0, none⟩ = some (.int .i64 t) := hFa _ _ (hKFb 0 _ rfl)
    have h3 : ∀ j, j < 4 → Fa ((⟨p3, 0, none⟩ : Addr).add j) = (lnv l)[j]? := by
      intro j hj
      obtain ⟨u, hu⟩ : ∃ u, (lnv l)[j]? = some u := ⟨_, List.getElem?_eq_getElem (by rw [lnv_len]; exact hj)⟩
      rw [hu, add_mk, Nat.zero_add]
      exact hKFa j u hu
    have h9 : ∀ j, j < 5 → Fa ((⟨p9, 0, none⟩ : Addr).add j) = ([.slice l.g.A l.g.n l.g.cap, .int .i64 l.g.cyc, .int .i64 l.per, .int .i64 l.sh, .slice A n c] : List Value)[j]? := by
      intro j hj
      obtain ⟨u, hu⟩ : ∃ u, ([.slice l.g.A l.g.n l.g.cap, .int .i64 l.g.cyc, .int .i64 l.per, .int .i64 l.sh, .slice A n c] : List Value)[j]? = some u := ⟨_, List.getElem?_eq_getElem hj⟩
      rw [hu, add_mk, Nat.zero_add]
      exact hFa _ _ (hFb _ _ (hKFc j u hu))
    have hla : LnK Fa l := EntK.mono hl fun a u h => hFa _ _ (hFb _ _ (hFc _ _ h))
    have hPa : PK Fa A n hs0 := hP.mono fun a u h => hFa _ _ (hFb _ _ (hFc _ _ h))
    refine o1 rfl (det_loadKN tN107 rfl rfl h9) rfl rfl trivial ?_
    refine oF nofun rfl hb59 rfl rfl rfl trivial (fun w1 hs => (classes_ok hs.know).any) (fun v F2 hF2 hN2 ⟨q, hv, hq⟩ => ?_)
    subst hv
    refine o1 rfl (det_makeFunc rfl rfl) rfl rfl trivial ?_
    refine o1 rfl (det_call hb62 rfl rfl (fun w1 hs => least_ok hs.know (EntK.mono hla hF2) (hPa.mono hF2) hL hH ht hq (fun j hj => by have h0 := h3 j hj; obtain ⟨u, hu⟩ : ∃ u, (lnv l)[j]? = some u := ⟨_, List.getElem?_eq_getElem (by rw [lnv_len]; exact hj)⟩; rw [hu] at h0 ⊢; exact hF2 _ _ h0) (hF2 _ _ h5) (fun j hj => by have h0 := h9 j hj; obtain ⟨u, hu⟩ : ∃ u, ([.slice l.g.A l.g.n l.g.cap, .int .i64 l.g.cyc, .int .i64 l.per, .int .i64 l.sh, .slice A n c] : List Value)[j]? = some u := ⟨_, List.getElem?_eq_getElem hj⟩; rw [hu] at h0 ⊢; exact hF2 _ _ h0))) rfl rfl trivial ?_
    refine o1 rfl (det_extract rfl rfl) rfl rfl trivial ?_
    refine o1 rfl (det_extract rfl rfl) rfl rfl trivial ?_
    refine o1 rfl (det_assign rfl) rfl rfl trivial ?_
    refine o1 rfl (det_assign rfl) rfl rfl trivial ?_
    refine be rfl ?_
    refine k_then ?_
    refine t_ret ?_
    refine ret_tmp2 rfl rfl rfl rfl (fun w1 hs => ?_)
    first
    | exact ⟨by unfold whenA; rw [if_pos he], hs.keep⟩
    | exact ⟨by unfold whenA; rw [if_neg (by simp [he])], hs.keep⟩

/-- When. -/
theorem rwhen_ok {w : World} {F : Know} (hF : ∀ a v, F a = some v → w.cell? a = some v) {l : Ln} (hl : LnK F l) {A : Option Addr} {n c : Nat} {hs0 : List Pt} (hP : PK F A n hs0) (hL : okL l = true) (hH : okH hs0 = true) {t : Int} (ht : 0 ≤ t ∧ t ≤ 549755813888) : Pure Try.prog 27 [.agg (lnv l).toArray, .slice A n c, .int .i64 t] w (.tuple [.int .i64 (orE (whenL l hs0 t)).1, .bool (whenL l hs0 t).isSome].toArray) := by
  have h8 := (okH_parts hH).1
  have hLp := okL_parts hL
  have hper := hLp.2.1
  have hsh := hLp.2.2
  have hnl := hP.len
  refine fn_pure (F := F) Try.func27 rfl Try.ntmps27 rfl hF ?_
  refine t_seq ?_
  refine b0 ?_
  refine om1 rfl (new_boxN rfl) rfl rfl trivial (fun p3 => ?_)
  refine o1 rfl (det_assign rfl) rfl rfl trivial ?_
  refine o1 rfl (det_assign rfl) rfl rfl trivial ?_
  refine be rfl ?_
  refine k_then ?_
  refine t_seq ?_
  refine b0 ?_
  refine o1 rfl (det_assign rfl) rfl rfl trivial ?_
  refine o1 rfl (det_assign rfl) rfl rfl trivial ?_
  refine be rfl ?_
  refine k_then ?_
  refine t_seq ?_
  refine t_seq ?_
  refine b0 ?_
  refine o1 rfl (det_assign rfl) rfl rfl trivial ?_
  refine be rfl ?_
  refine k_then ?_
  refine t_block ?_
  refine t_whileM (σ := Nat) (fun s => [(8, .int .i64 (orE (upK l hs0 t s)).1), (9, .bool (upK l hs0 t s).isSome), (10, .int .i64 (s : Int))]) (fun _ => _) (fun s => 8 - s) (fun s => s ≤ 8) 0 (env0 := [(1, _), (2, _), (3, _), (6, _), (7, _)]) (by omega) ⟨rfl, rfl, rfl, trivial⟩ ⟨rfl, rfl, rfl, rfl, rfl, trivial⟩ (.refl _) ?_
  rintro s hs8
  refine t_seq ?_
  refine t_seq ?_
  refine b0 ?_
  refine o1 rfl (det_move rfl) rfl rfl trivial ?_
  refine o1 rfl (det_lss rfl rfl) rfl rfl trivial ?_
  refine be rfl ?_
  refine k_then ?_
  refine t_condP decide_eq_true_iff rfl (fun hb => ?_) (fun hb => ?_)
  ·
    have hlt : s < hs0.length := by omega
    obtain ⟨A, rfl⟩ := hP.some hlt
    have hat := atP_get hlt
    have hlf := okH_left hH (c := (s : Int)) (by omega)
    rw [Int.toNat_natCast, hat] at hlf
    have hm : 0 ≤ hs0[s].left * l.per ∧ hs0[s].left * l.per ≤ 1542 * 1000 := ⟨Int.mul_nonneg hlf.1 (by omega), Int.mul_le_mul hlf.2 hper.2 (by omega) (by decide)⟩
    have hwf : (whenF l hs0 t s) = ((fitA l.g.es l.g.cyc s (t + l.sh) (hs0[s].left * l.per)).1 - l.sh, (fitA l.g.es l.g.cyc s (t + l.sh) (hs0[s].left * l.per)).2) := by unfold whenF fitN longC; rw [Int.toNat_natCast, hat]
    have hfb := fitA_rng (okL_parts hL).1 (cl := s) (t := t + l.sh) (lg := hs0[s].left * l.per)
    have hku : upK l hs0 t (s + 1) = if waitC hs0 s then minS (upK l hs0 t s) (whenF l hs0 t s) else upK l hs0 t s := rfl
    have hwd : waitC hs0 s = (!noneP hs0[s] && !heldC hs0 s) := by unfold waitC; rw [Int.toNat_natCast, hat]
    rw [hwd, hwf] at hku
    refine t_skip ?_
    refine k_then ?_
    refine t_seq ?_
    refine t_block ?_
    refine t_seq ?_
    refine t_seq ?_
    refine b0 ?_
    refine o1 rfl (det_move rfl) rfl rfl trivial ?_
    refine o1 rfl (det_move rfl) rfl rfl trivial ?_
    first | (refine o1 rfl (det_indexAddr sl27 rfl rfl ?_) rfl rfl trivial ?_; (· (first | decide | omega)))
    refine o1 rfl (det_loadKN tN57 rfl (ptv_len hs0[s]) (hP.cells (i := (s : Int)) (k := s) (Int.toNat_natCast s) hlt (ptv_len _))) rfl rfl trivial ?_
    refine o1 rfl (det_call hb54 rfl rfl (fun w1 hs => none_ok hs.know)) rfl rfl trivial ?_
    refine o2P Iff.rfl rfl (det_move rfl) rfl rfl trivial (fun hb => ?_) (fun hb => ?_)
    ·
      refine on rfl rfl rfl ⟨_, rfl, .inl rfl⟩ ?_
      refine on rfl rfl rfl ⟨_, rfl, .inl rfl⟩ ?_
      refine on rfl rfl rfl ⟨_, rfl, .inl rfl⟩ ?_
      refine o1 rfl (det_pickT rfl rfl) rfl rfl trivial ?_
      refine be rfl ?_
      refine k_then ?_
      refine t_condT rfl ?_
      refine t_exit ?_
      refine k_thenE ?_
      refine k_blkE ?_
      refine k_then ?_
      refine b0 ?_
      refine o1 rfl (det_move rfl) rfl rfl trivial ?_
      first | (refine o1 rfl (det_addI rfl rfl ?_) rfl rfl trivial ?_; (· omega)) | refine o1 rfl (det_add rfl rfl) rfl rfl trivial ?_
      refine o1 rfl (det_assign rfl) rfl rfl trivial ?_
      refine be rfl ?_
      refine k_then ?_
      refine loop_back (s + 1) (by omega) (by omega) ⟨(mi rfl (by rw [hku]; cases hou : upK l hs0 t s <;> grind [minS, orE])), (mb rfl (by rw [hku]; cases hou : upK l hs0 t s <;> grind [minS, orE])), rfl, rfl, rfl, rfl, rfl, rfl, trivial⟩ (.refl _)
    ·
      refine o1 rfl (det_move rfl) rfl rfl ⟨_, rfl, rfl⟩ ?_
      refine o1 rfl (det_move rfl) rfl rfl ⟨_, rfl, rfl⟩ ?_
      refine o1 rfl (det_call hb60 rfl rfl (fun w1 hs => rheld_ok hs.know hP h8 (by omega))) rfl rfl ⟨_, rfl, rfl⟩ ?_
      refine o1 rfl (det_pickF rfl rfl) rfl rfl trivial ?_
      refine be rfl ?_
      refine k_then ?_
      refine t_condP Iff.rfl rfl (fun hb => ?_) (fun hb => ?_)
      ·
        refine t_exit ?_
        refine k_thenE ?_
        refine k_blkE ?_
        refine k_then ?_
        refine b0 ?_
        refine o1 rfl (det_move rfl) rfl rfl trivial ?_
        first | (refine o1 rfl (det_addI rfl rfl ?_) rfl rfl trivial ?_; (· omega)) | refine o1 rfl (det_add rfl rfl) rfl rfl trivial ?_
        refine o1 rfl (det_assign rfl) rfl rfl trivial ?_
        refine be rfl ?_
        refine k_then ?_
        refine loop_back (s + 1) (by omega) (by omega) ⟨(mi rfl (by rw [hku]; cases hou : upK l hs0 t s <;> grind [minS, orE])), (mb rfl (by rw [hku]; cases hou : upK l hs0 t s <;> grind [minS, orE])), rfl, rfl, rfl, rfl, rfl, rfl, trivial⟩ (.refl _)
      ·
        refine t_skip ?_
        refine k_then ?_
        refine t_seq ?_
        refine bD mixed ?_
        refine r_seg 21 21 [] [0, 1, 2, 3, 4, 5, 6, 7, 8, 9, 10, 11, 12, 13, 14, 15, 16, 17, 18, 19, 20] (by kernel_rfl) ?_
        refine s1 rfl (det_fieldAddr fld26_0 rfl) rfl rfl trivial rfl ?_
        refine s1 rfl (det_loadN tN24 rfl rfl (.head _) rfl) rfl rfl trivial rfl ?_
        refine s1 rfl (det_move rfl) rfl rfl trivial rfl ?_
        refine s1 rfl (det_move rfl) rfl rfl trivial rfl ?_
        refine s1 rfl (det_fieldAddr fld26_2 rfl) rfl rfl trivial rfl ?_
        refine s1 rfl (det_load1 t1_3 rfl rfl (.head _) rfl) rfl rfl trivial rfl ?_
        first | (refine s1 rfl (det_addI rfl rfl ?_) rfl rfl trivial rfl ?_; (· omega)) | refine s1 rfl (det_add rfl rfl) rfl rfl trivial rfl ?_
        refine s1 rfl (det_move rfl) rfl rfl trivial rfl ?_
        refine s1 rfl (det_move rfl) rfl rfl trivial rfl ?_
        first | (refine s1 rfl (det_indexAddr sl27 rfl rfl ?_) rfl rfl trivial rfl ?_; (· (first | decide | omega)))
        refine s1 rfl (det_fieldAddr fld57_1 rfl) rfl rfl trivial rfl ?_
        refine s1 rfl (det_loadK t1_3 rfl (hP.cell (i := (s : Int)) (k := s) (Int.toNat_natCast s) hlt (j := 5) (u := .int .i64 hs0[s].left) rfl)) rfl rfl trivial rfl ?_
        refine s1 rfl (det_fieldAddr fld26_1 rfl) rfl rfl trivial rfl ?_
        refine s1 rfl (det_load1 t1_3 rfl rfl (.head _) rfl) rfl rfl trivial rfl ?_
        first | (refine s1 rfl (det_mulI rfl rfl ?_) rfl rfl trivial rfl ?_; (· omega)) | refine s1 rfl (det_mul rfl rfl) rfl rfl trivial rfl ?_
        refine s1 rfl (det_call hb66 rfl rfl (fun w1 hs => rFit_at hs.know hl (by omega))) rfl rfl trivial rfl ?_
        refine s1 rfl (det_move rfl) rfl rfl trivial rfl ?_
        refine s1 rfl (det_extract rfl rfl) rfl rfl trivial rfl ?_
        refine s1 rfl (det_extract rfl rfl) rfl rfl trivial rfl ?_
        refine s1 rfl (det_assign rfl) rfl rfl trivial rfl ?_
        refine s1 rfl (det_assign rfl) rfl rfl trivial rfl ?_
        refine sg_nil ?_
        refine be rfl ?_
        refine k_then ?_
        refine t_seq ?_
        refine b0 ?_
        refine o1 rfl (det_move rfl) rfl rfl trivial ?_
        refine o1 rfl (det_eql rfl rfl) rfl rfl trivial ?_
        refine o2P beq_iff_eq rfl (det_move rfl) rfl rfl trivial (fun hb => ?_) (fun hb => ?_)
        ·
          refine o1 rfl (det_move rfl) rfl rfl ⟨_, rfl, rfl⟩ ?_
          refine o1 rfl (det_not rfl) rfl rfl ⟨_, rfl, rfl⟩ ?_
          refine o2P not_iff_false rfl (det_move rfl) rfl rfl ⟨_, rfl, rfl⟩ (fun hb => ?_) (fun hb => ?_)
          ·
            refine on rfl rfl rfl ⟨_, rfl, .inl rfl⟩ ?_
            refine on rfl rfl rfl ⟨_, rfl, .inl rfl⟩ ?_
            refine on rfl rfl rfl ⟨_, rfl, .inl rfl⟩ ?_
            refine on rfl rfl rfl ⟨_, rfl, .inl rfl⟩ ?_
            refine on rfl rfl rfl ⟨_, rfl, .inl rfl⟩ ?_
            refine on rfl rfl rfl ⟨_, rfl, .inl rfl⟩ ?_
            refine o1 rfl (det_pickT rfl rfl) rfl rfl ⟨_, rfl, rfl⟩ ?_
            refine o1 rfl (det_pickT rfl rfl) rfl rfl trivial ?_
            refine be rfl ?_
            refine k_then ?_
            refine t_condT rfl ?_
            refine t_seq ?_
            refine b0 ?_
            refine o1 rfl (det_move rfl) rfl rfl trivial ?_
            refine o1 rfl (det_fieldAddr fld26_2 rfl) rfl rfl trivial ?_
            refine o1 rfl (det_load1 t1_3 rfl rfl (.head _) rfl) rfl rfl trivial ?_
            first | (refine o1 rfl (det_subI rfl rfl ?_) rfl rfl trivial ?_; (· omega)) | refine o1 rfl (det_sub rfl rfl) rfl rfl trivial ?_
            refine o1 rfl (det_assign rfl) rfl rfl trivial ?_
            refine be rfl ?_
            refine k_then ?_
            refine b0 ?_
            refine o1 rfl (det_assign rfl) rfl rfl trivial ?_
            refine be rfl ?_
            refine k_blk ?_
            refine k_then ?_
            refine b0 ?_
            refine o1 rfl (det_move rfl) rfl rfl trivial ?_
            first | (refine o1 rfl (det_addI rfl rfl ?_) rfl rfl trivial ?_; (· omega)) | refine o1 rfl (det_add rfl rfl) rfl rfl trivial ?_
            refine o1 rfl (det_assign rfl) rfl rfl trivial ?_
            refine be rfl ?_
            refine k_then ?_
            refine loop_back (s + 1) (by omega) (by omega) ⟨(mi rfl (by rw [hku]; cases hou : upK l hs0 t s <;> grind [minS, orE])), (mb rfl (by rw [hku]; cases hou : upK l hs0 t s <;> grind [minS, orE])), rfl, rfl, rfl, rfl, rfl, rfl, trivial⟩ (.refl _)
          ·
            refine o1 rfl (det_move rfl) rfl rfl ⟨_, rfl, rfl⟩ ?_
            refine o1 rfl (det_fieldAddr fld26_2 rfl) rfl rfl ⟨_, rfl, rfl⟩ ?_
            refine o1 rfl (det_load1 t1_3 rfl rfl (.head _) rfl) rfl rfl ⟨_, rfl, rfl⟩ ?_
            first | (refine o1 rfl (det_subI rfl rfl ?_) rfl rfl ⟨_, rfl, rfl⟩ ?_; (· omega)) | refine o1 rfl (det_sub rfl rfl) rfl rfl ⟨_, rfl, rfl⟩ ?_
            refine o1 rfl (det_move rfl) rfl rfl ⟨_, rfl, rfl⟩ ?_
            refine o1 rfl (det_lss rfl rfl) rfl rfl ⟨_, rfl, rfl⟩ ?_
            refine o1 rfl (det_pickF rfl rfl) rfl rfl ⟨_, rfl, rfl⟩ ?_
            refine o1 rfl (det_pickT rfl rfl) rfl rfl trivial ?_
            refine be rfl ?_
            refine k_then ?_
            refine t_condP decide_eq_true_iff rfl (fun hb => ?_) (fun hb => ?_)
            ·
              refine t_seq ?_
              refine b0 ?_
              refine o1 rfl (det_move rfl) rfl rfl trivial ?_
              refine o1 rfl (det_fieldAddr fld26_2 rfl) rfl rfl trivial ?_
              refine o1 rfl (det_load1 t1_3 rfl rfl (.head _) rfl) rfl rfl trivial ?_
              first | (refine o1 rfl (det_subI rfl rfl ?_) rfl rfl trivial ?_; (· omega)) | refine o1 rfl (det_sub rfl rfl) rfl rfl trivial ?_
              refine o1 rfl (det_assign rfl) rfl rfl trivial ?_
              refine be rfl ?_
              refine k_then ?_
              refine b0 ?_
              refine o1 rfl (det_assign rfl) rfl rfl trivial ?_
              refine be rfl ?_
              refine k_blk ?_
              refine k_then ?_
              refine b0 ?_
              refine o1 rfl (det_move rfl) rfl rfl trivial ?_
              first | (refine o1 rfl (det_addI rfl rfl ?_) rfl rfl trivial ?_; (· omega)) | refine o1 rfl (det_add rfl rfl) rfl rfl trivial ?_
              refine o1 rfl (det_assign rfl) rfl rfl trivial ?_
              refine be rfl ?_
              refine k_then ?_
              refine loop_back (s + 1) (by omega) (by omega) ⟨(mi rfl (by rw [hku]; cases hou : upK l hs0 t s <;> grind [minS, orE])), (mb rfl (by rw [hku]; cases hou : upK l hs0 t s <;> grind [minS, orE])), rfl, rfl, rfl, rfl, rfl, rfl, trivial⟩ (.refl _)
            ·
              refine t_skip ?_
              refine k_blk ?_
              refine k_then ?_
              refine b0 ?_
              refine o1 rfl (det_move rfl) rfl rfl trivial ?_
              first | (refine o1 rfl (det_addI rfl rfl ?_) rfl rfl trivial ?_; (· omega)) | refine o1 rfl (det_add rfl rfl) rfl rfl trivial ?_
              refine o1 rfl (det_assign rfl) rfl rfl trivial ?_
              refine be rfl ?_
              refine k_then ?_
              refine loop_back (s + 1) (by omega) (by omega) ⟨(mi rfl (by rw [hku]; cases hou : upK l hs0 t s <;> grind [minS, orE])), (mb rfl (by rw [hku]; cases hou : upK l hs0 t s <;> grind [minS, orE])), rfl, rfl, rfl, rfl, rfl, rfl, trivial⟩ (.refl _)
        ·
          refine on rfl rfl rfl ⟨_, rfl, .inl rfl⟩ ?_
          refine on rfl rfl rfl ⟨_, rfl, .inl rfl⟩ ?_
          refine on rfl rfl rfl ⟨_, rfl, .inl rfl⟩ ?_
          refine on rfl rfl rfl ⟨_, rfl, .inr rfl⟩ ?_
          refine on rfl rfl rfl ⟨_, rfl, .inr rfl⟩ ?_
          refine on rfl rfl rfl ⟨_, rfl, .inr rfl⟩ ?_
          refine on rfl rfl rfl ⟨_, rfl, .inr rfl⟩ ?_
          refine on rfl rfl rfl ⟨_, rfl, .inr rfl⟩ ?_
          refine on rfl rfl rfl ⟨_, rfl, .inr rfl⟩ ?_
          refine on rfl rfl rfl ⟨_, rfl, .inl rfl⟩ ?_
          refine o1 rfl (det_pickF rfl rfl) rfl rfl trivial ?_
          refine be rfl ?_
          refine k_then ?_
          refine t_condF rfl ?_
          refine t_skip ?_
          refine k_blk ?_
          refine k_then ?_
          refine b0 ?_
          refine o1 rfl (det_move rfl) rfl rfl trivial ?_
          first | (refine o1 rfl (det_addI rfl rfl ?_) rfl rfl trivial ?_; (· omega)) | refine o1 rfl (det_add rfl rfl) rfl rfl trivial ?_
          refine o1 rfl (det_assign rfl) rfl rfl trivial ?_
          refine be rfl ?_
          refine k_then ?_
          refine loop_back (s + 1) (by omega) (by omega) ⟨(mi rfl (by rw [hku]; cases hou : upK l hs0 t s <;> grind [minS, orE])), (mb rfl (by rw [hku]; cases hou : upK l hs0 t s <;> grind [minS, orE])), rfl, rfl, rfl, rfl, rfl, rfl, trivial⟩ (.refl _)
  ·
    have hs8e : s = 8 := by omega
    refine t_exit ?_
    refine k_thenE ?_
    refine k_thenE ?_
    refine k_blkE ?_
    refine k_then ?_
    refine t_seq ?_
    refine b0 ?_
    refine o1 rfl (det_move rfl) rfl rfl trivial ?_
    refine o1 rfl (det_move rfl) rfl rfl trivial ?_
    refine o1 rfl (det_assign rfl) rfl rfl trivial ?_
    refine o1 rfl (det_assign rfl) rfl rfl trivial ?_
    refine be rfl ?_
    refine k_then ?_
    refine t_ret ?_
    refine ret_tmp2 rfl rfl rfl rfl (fun w1 hs => ?_)
    rw [← upK_eq, ← hs8e]
    exact ⟨rfl, hs.keep⟩

end Go.Proofs.Cp
