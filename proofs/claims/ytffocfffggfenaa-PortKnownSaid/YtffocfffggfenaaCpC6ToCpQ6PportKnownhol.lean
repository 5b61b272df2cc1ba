/-
  The texts CpC6 to CpQ6, one after the other.
-/
import Derived.Test.YtffocfffggfenaaCpFrEToCpC5PportKnownhol
import Derived.Test.YtffocfffggfenaaGtPlainToPoPlain14PportKnownhol
import Derived.Test.YtffocfffggfenaaEng12ToEng24PportKnownhol
/-
  Walks through layers 36, 37 and 38 and their references.
-/
namespace Go.Proofs.Cp
open Go Go.Eng Go.Gt Go.Proofs.Gt Go.Sw Go.Qu Go.Ch
set_option maxRecDepth 4000
theorem waits_ok {w : World} {F : Know} (hF : ∀ a v, F a = some v → w.cell? a = some v) {l : Ln} {A : Option Addr} {n c : Nat} {hs0 : List Pt} (hP : PK F A n hs0) (h8 : hs0.length = 8) {cl : Int} (hcl : 0 ≤ cl ∧ cl ≤ 7) : Pure Try.prog 57 [.agg [.slice l.g.A l.g.n l.g.cap, .int .i64 l.g.cyc, .int .i64 l.per, .int .i64 l.sh, .slice A n c].toArray, .int .i64 cl] w (.bool (waitC hs0 cl)) := by
  have hnl := hP.len
  have hlc : cl.toNat < hs0.length := by omega
  obtain ⟨A, rfl⟩ := hP.some hlc
  have hac := atP_get hlc
  refine fn_pure (F := F) Try.func57 rfl Try.ntmps57 rfl hF ?_
  refine t_seq ?_
  refine b0 ?_
  refine om1 rfl (new_boxN rfl) rfl rfl trivial (fun p2 => ?_)
  refine o1 rfl (det_assign rfl) rfl rfl trivial ?_
  refine be rfl ?_
  refine k_then ?_
  refine t_seq ?_
  refine t_seq ?_
  refine b0 ?_
  refine o1 rfl (det_fieldAddr fld107_1 rfl) rfl rfl trivial ?_
  refine o1 rfl (det_load1 t1_27 rfl rfl (.head _) rfl) rfl rfl trivial ?_
  refine o1 rfl (det_move rfl) rfl rfl trivial ?_
  first | (refine o1 rfl (det_indexAddr sl27 rfl rfl ?_) rfl rfl trivial ?_; (· (first | decide | omega)))
  refine o1 rfl (det_loadKN tN57 rfl (ptv_len hs0[cl.toNat]) (hP.cells (i := cl) (k := cl.toNat) rfl hlc (ptv_len _))) rfl rfl trivial ?_
  refine o1 rfl (det_build rfl (fun w => bld57_ w)) rfl rfl trivial ?_
  refine o1 rfl (det_eqlS rfl rfl eqg57 (fun w => eq57 _ _ _ _ _ _ _ _ _ _ _ _ _ _ w)) rfl rfl trivial ?_
  refine be rfl ?_
  refine k_then ?_
  refine t_condP Iff.rfl rfl (fun hb => ?_) (fun hb => ?_)
  ·
    have hno : noneP (atP hs0 cl.toNat) = true := by rw [hac]; exact hb
    refine t_seq ?_
    refine b0 ?_
    refine o1 rfl (det_assign rfl) rfl rfl trivial ?_
    refine be rfl ?_
    refine k_then ?_
    refine t_ret (k_thenR (?_))
    refine ret_tmp rfl rfl rfl (fun w1 hs => ?_)
    first | exact ⟨by unfold waitC; rw [hno, hh]; rfl, hs.keep⟩ | exact ⟨by unfold waitC; rw [hno, held_true hlt (by rw [hat]; grind) (by grind) (by grind)]; rfl, hs.keep⟩ | exact ⟨by unfold waitC; rw [hno]; rfl, hs.keep⟩
  ·
    have hno : noneP (atP hs0 cl.toNat) = false := by rw [hac]; unfold noneP; simpa using hb
    refine t_skip ?_
    refine k_then ?_
    refine t_seq ?_
    refine t_seq ?_
    refine b0 ?_
    refine o1 rfl (det_fieldAddr fld107_1 rfl) rfl rfl trivial ?_
    refine o1 rfl (det_load1 t1_27 rfl rfl (.head _) rfl) rfl rfl trivial ?_
    refine o1 rfl (det_lenS sl27 rfl) rfl rfl trivial ?_
    refine o1 rfl (det_move rfl) rfl rfl trivial ?_
    refine be rfl ?_
    refine k_then ?_
    refine t_block ?_
    refine t_whileM (σ := Nat) (fun s => [(17, .int .i64 (s : Int))]) (fun _ => _) (fun s => 8 - s) (fun s => s ≤ 8 ∧ ∀ k, k < s → ¬ ((atP hs0 k).rest = true ∧ (k : Int) ≠ cl ∧ cl < 6)) 0 (env0 := [(1, _), (15, _), (16, _)]) ⟨by omega, fun k hk => absurd hk (Nat.not_lt_zero k)⟩ ⟨rfl, trivial⟩ ⟨rfl, rfl, rfl, trivial⟩ (.refl _) ?_
    rintro s ⟨hs8, hI⟩
    refine t_seq ?_
    refine b0 ?_
    refine o1 rfl (det_lss rfl rfl) rfl rfl trivial ?_
    refine be rfl ?_
    refine k_then ?_
    refine t_seq ?_
    refine t_condP decide_eq_true_iff rfl (fun hb => ?_) (fun hb => ?_)
    ·
      have hlt : s < hs0.length := by omega
      have hat := atP_get hlt
      refine t_skip ?_
      refine k_then ?_
      refine t_seq ?_
      refine t_block ?_
      refine t_seq ?_
      refine b0 ?_
      refine o1 rfl (det_move rfl) rfl rfl trivial ?_
      first | (refine o1 rfl (det_indexAddr sl27 rfl rfl ?_) rfl rfl trivial ?_; (· (first | decide | omega)))
      refine o1 rfl (det_loadKN tN57 rfl (ptv_len hs0[s]) (hP.cells (i := (s : Int)) (k := s) (Int.toNat_natCast s) hlt (ptv_len _))) rfl rfl trivial ?_
      refine om1 rfl (new_alloc z57) rfl rfl trivial (fun p6 => ?_)
      refine o1 rfl (det_assign rfl) rfl rfl trivial ?_
      refine stN nofun rfl tN57 rfl rfl rfl .head rfl trivial rfl rfl ?_
      refine be rfl ?_
      refine k_then ?_
      refine t_seq ?_
      refine b0 ?_
      refine o1 rfl (det_fieldAddr fld57_2 rfl) rfl rfl trivial ?_
      refine o1 rfl (det_load1 t1_4 rfl rfl (.head _) rfl) rfl rfl trivial ?_
      refine o2P Iff.rfl rfl (det_move rfl) rfl rfl trivial (fun hb => ?_) (fun hb => ?_)
      ·
        refine o1 rfl (det_move rfl) rfl rfl ⟨_, rfl, rfl⟩ ?_
        refine o1 rfl (det_move rfl) rfl rfl ⟨_, rfl, rfl⟩ ?_
        refine o1 rfl (det_neq rfl rfl) rfl rfl ⟨_, rfl, rfl⟩ ?_
        refine o1 rfl (det_pickT rfl rfl) rfl rfl trivial ?_
        refine o2P bne_iff_ne rfl (det_move rfl) rfl rfl trivial (fun hb => ?_) (fun hb => ?_)
        ·
          refine o1 rfl (det_move rfl) rfl rfl ⟨_, rfl, rfl⟩ ?_
          refine o1 rfl (det_lss rfl rfl) rfl rfl ⟨_, rfl, rfl⟩ ?_
          refine o1 rfl (det_pickT rfl rfl) rfl rfl trivial ?_
          refine be rfl ?_
          refine k_then ?_
          refine t_condP decide_eq_true_iff rfl (fun hb => ?_) (fun hb => ?_)
          ·
            refine t_seq ?_
            refine b0 ?_
            refine o1 rfl (det_assign rfl) rfl rfl trivial ?_
            refine be rfl ?_
            refine k_then ?_
            refine t_ret (k_blkR (k_thenR (k_thenR (k_blkR (k_thenR (?_))))))
            refine ret_tmp rfl rfl rfl (fun w1 hs => ?_)
            first | exact ⟨by unfold waitC; rw [hno, hh]; rfl, hs.keep⟩ | exact ⟨by unfold waitC; rw [hno, held_true hlt (by rw [hat]; grind) (by grind) (by grind)]; rfl, hs.keep⟩ | exact ⟨by unfold waitC; rw [hno]; rfl, hs.keep⟩
          ·
            refine t_skip ?_
            refine k_blk ?_
            refine k_then ?_
            refine b0 ?_
            first | (refine o1 rfl (det_addI rfl rfl ?_) rfl rfl trivial ?_; (· omega)) | refine o1 rfl (det_add rfl rfl) rfl rfl trivial ?_
            refine o1 rfl (det_move rfl) rfl rfl trivial ?_
            refine be rfl ?_
            refine k_then ?_
            refine loop_back (s + 1) ⟨by omega, fun k hk => by
                by_cases e : k = s
                · subst e; rw [atP_get hlt]; grind
                · exact hI k (by omega)⟩ (by omega) ⟨rfl, rfl, rfl, rfl, trivial⟩ (.cons _ (.refl _))
        ·
          refine on rfl rfl rfl ⟨_, rfl, .inl rfl⟩ ?_
          refine on rfl rfl rfl ⟨_, rfl, .inl rfl⟩ ?_
          refine o1 rfl (det_pickF rfl rfl) rfl rfl trivial ?_
          refine be rfl ?_
          refine k_then ?_
          refine t_condF rfl ?_
          refine t_skip ?_
          refine k_blk ?_
          refine k_then ?_
          refine b0 ?_
          first | (refine o1 rfl (det_addI rfl rfl ?_) rfl rfl trivial ?_; (· omega)) | refine o1 rfl (det_add rfl rfl) rfl rfl trivial ?_
          refine o1 rfl (det_move rfl) rfl rfl trivial ?_
          refine be rfl ?_
          refine k_then ?_
          refine loop_back (s + 1) ⟨by omega, fun k hk => by
              by_cases e : k = s
              · subst e; rw [atP_get hlt]; grind
              · exact hI k (by omega)⟩ (by omega) ⟨rfl, rfl, rfl, rfl, trivial⟩ (.cons _ (.refl _))
      ·
        refine on rfl rfl rfl ⟨_, rfl, .inl rfl⟩ ?_
        refine on rfl rfl rfl ⟨_, rfl, .inl rfl⟩ ?_
        refine on rfl rfl rfl ⟨_, rfl, .inl rfl⟩ ?_
        refine o1 rfl (det_pickF rfl rfl) rfl rfl trivial ?_
        refine o1 rfl (det_move rfl) rfl rfl trivial ?_
        refine on rfl rfl rfl ⟨_, rfl, .inl rfl⟩ ?_
        refine on rfl rfl rfl ⟨_, rfl, .inl rfl⟩ ?_
        refine o1 rfl (det_pickF rfl rfl) rfl rfl trivial ?_
        refine be rfl ?_
        refine k_then ?_
        refine t_condF rfl ?_
        refine t_skip ?_
        refine k_blk ?_
        refine k_then ?_
        refine b0 ?_
        first | (refine o1 rfl (det_addI rfl rfl ?_) rfl rfl trivial ?_; (· omega)) | refine o1 rfl (det_add rfl rfl) rfl rfl trivial ?_
        refine o1 rfl (det_move rfl) rfl rfl trivial ?_
        refine be rfl ?_
        refine k_then ?_
        refine loop_back (s + 1) ⟨by omega, fun k hk => by
            by_cases e : k = s
            · subst e; rw [atP_get hlt]; grind
            · exact hI k (by omega)⟩ (by omega) ⟨rfl, rfl, rfl, rfl, trivial⟩ (.cons _ (.refl _))
    ·
      have hh := held_false (c := cl) fun k hk => hI k (by omega)
      refine t_exit ?_
      refine k_thenE ?_
      refine k_thenE ?_
      refine k_blkE ?_
      refine k_then ?_
      refine t_seq ?_
      refine b0 ?_
      refine o1 rfl (det_assign rfl) rfl rfl trivial ?_
      refine be rfl ?_
      refine k_then ?_
      refine t_ret ?_
      refine ret_tmp rfl rfl rfl (fun w1 hs => ?_)
      first | exact ⟨by unfold waitC; rw [hno, hh]; rfl, hs.keep⟩ | exact ⟨by unfold waitC; rw [hno, held_true hlt (by rw [hat]; grind) (by grind) (by grind)]; rfl, hs.keep⟩ | exact ⟨by unfold waitC; rw [hno]; rfl, hs.keep⟩
end Go.Proofs.Cp

/-
  Walks through layers 36, 37 and 38 and their references.
-/
namespace Go.Proofs.Cp
open Go Go.Eng Go.Gt Go.Proofs.Gt Go.Sw Go.Qu Go.Ch
set_option maxRecDepth 4000
theorem Fits_at {w : World} {F : Know} (hF : ∀ a v, F a = some v → w.cell? a = some v) {l : Ln} (hl : LnK F l) {cl t lg : Int} (hcl : 0 ≤ cl ∧ cl ≤ 7) : Pure Try.prog 47 [.agg (glv l.g).toArray, .int .i64 cl, .int .i64 t, .int .i64 lg] w (.tuple [.bool (fitsA l.g.es l.g.cyc cl t lg).1, .int .i64 (fitsA l.g.es l.g.cyc cl t lg).2].toArray) := Fits_ok (cap := l.g.cap) hF hl cl (by omega) t lg
theorem vfits_ok {w : World} {F : Know} (hF : ∀ a v, F a = some v → w.cell? a = some v) {l : Ln} (hl : LnK F l) {A : Option Addr} {n c : Nat} {hs0 : List Pt} (hP : PK F A n hs0) (h8 : hs0.length = 8) {cl : Int} (hcl : 0 ≤ cl ∧ cl ≤ 7) (hper : 1 ≤ l.per ∧ l.per ≤ 1000) (hleft : 0 ≤ (atP hs0 cl.toNat).left ∧ (atP hs0 cl.toNat).left ≤ 1542) {t : Int} (hsh : -1000 ≤ l.sh ∧ l.sh ≤ 1000) (ht : -4000000000000 ≤ t ∧ t ≤ 4000000000000) : Pure Try.prog 58 [.agg [.slice l.g.A l.g.n l.g.cap, .int .i64 l.g.cyc, .int .i64 l.per, .int .i64 l.sh, .slice A n c].toArray, .int .i64 cl, .int .i64 t] w (.bool (fitC l hs0 cl t)) := by
  refine fn_pure (F := F) Try.func58 rfl Try.ntmps58 rfl hF ?_
  refine t_seq ?_
  refine b0 ?_
  refine om1 rfl (new_boxN rfl) rfl rfl trivial (fun p3 => ?_)
  refine o1 rfl (det_assign rfl) rfl rfl trivial ?_
  refine be rfl ?_
  refine k_then ?_
  refine t_seq ?_
  refine bD mixed ?_
  refine r_seg 18 18 [] [0, 1, 2, 3, 4, 5, 6, 7, 8, 9, 10, 11, 12, 13, 14, 15, 16, 17] (by kernel_rfl) ?_
  refine s1 rfl (det_fieldAddr fld107_0 rfl) rfl rfl trivial rfl ?_
  refine s1 rfl (det_fieldAddr fld26_0 rfl) rfl rfl trivial rfl ?_
  refine s1 rfl (det_loadN tN24 rfl rfl (.head _) rfl) rfl rfl trivial rfl ?_
  refine s1 rfl (det_move rfl) rfl rfl trivial rfl ?_
  refine s1 rfl (det_move rfl) rfl rfl trivial rfl ?_
  refine s1 rfl (det_fieldAddr fld107_0 rfl) rfl rfl trivial rfl ?_
  refine s1 rfl (det_fieldAddr fld26_2 rfl) rfl rfl trivial rfl ?_
  refine s1 rfl (det_load1 t1_3 rfl rfl (.head _) rfl) rfl rfl trivial rfl ?_
  first | (refine s1 rfl (det_addI rfl rfl ?_) rfl rfl trivial rfl ?_; (· omega)) | refine s1 rfl (det_add rfl rfl) rfl rfl trivial rfl ?_
  refine s1 rfl (det_loadN tN107 rfl rfl (.head _) rfl) rfl rfl trivial rfl ?_
  refine s1 rfl (det_move rfl) rfl rfl trivial rfl ?_
  refine s1 rfl (det_call hb65 rfl rfl (fun w1 hs => long_ok hs.know hP h8 hcl hper hleft)) rfl rfl trivial rfl ?_
  refine s1 rfl (det_call hb47 rfl rfl (fun w1 hs => Fits_at hs.know hl hcl)) rfl rfl trivial rfl ?_
  refine s1 rfl (det_move rfl) rfl rfl trivial rfl ?_
  refine s1 rfl (det_extract rfl rfl) rfl rfl trivial rfl ?_
  refine s1 rfl (det_extract rfl rfl) rfl rfl trivial rfl ?_
  refine s1 rfl (det_assign rfl) rfl rfl trivial rfl ?_
  refine s1 rfl (det_assign rfl) rfl rfl trivial rfl ?_
  refine sg_nil ?_
  refine be rfl ?_
  refine k_then ?_
  refine t_seq ?_
  refine b0 ?_
  refine o1 rfl (det_move rfl) rfl rfl trivial ?_
  refine o2P Iff.rfl rfl (det_move rfl) rfl rfl trivial (fun hb => ?_) (fun hb => ?_)
  ·
    refine o1 rfl (det_move rfl) rfl rfl ⟨_, rfl, rfl⟩ ?_
    refine o1 rfl (det_eql rfl rfl) rfl rfl ⟨_, rfl, rfl⟩ ?_
    refine o1 rfl (det_pickT rfl rfl) rfl rfl trivial ?_
    refine o1 rfl (det_assign rfl) rfl rfl trivial ?_
    refine be rfl ?_
    refine k_then ?_
    refine t_ret ?_
    refine ret_tmp rfl rfl rfl (fun w1 hs => ?_)
    exact ⟨by unfold fitC; grind, hs.keep⟩
  ·
    refine on rfl rfl rfl ⟨_, rfl, .inl rfl⟩ ?_
    refine on rfl rfl rfl ⟨_, rfl, .inl rfl⟩ ?_
    refine o1 rfl (det_pickF rfl rfl) rfl rfl trivial ?_
    refine o1 rfl (det_assign rfl) rfl rfl trivial ?_
    refine be rfl ?_
    refine k_then ?_
    refine t_ret ?_
    refine ret_tmp rfl rfl rfl (fun w1 hs => ?_)
    exact ⟨by unfold fitC; grind, hs.keep⟩
end Go.Proofs.Cp

/-
  Walks through layers 36, 37 and 38 and their references.
-/
namespace Go.Proofs.Cp
open Go Go.Eng Go.Gt Go.Proofs.Gt Go.Sw Go.Qu Go.Ch
set_option maxRecDepth 4000
theorem down_on {hs : List Pt} {n : Nat} (h : waitC hs n = true) : (downL (n + 1)).filter (waitC hs) = (n : Int) :: (downL n).filter (waitC hs) := by
  show List.filter _ ((n : Int) :: downL n) = _
  rw [List.filter_cons_of_pos h]
theorem down_off {hs : List Pt} {n : Nat} (h : waitC hs n = false) : (downL (n + 1)).filter (waitC hs) = (downL n).filter (waitC hs) := by
  show List.filter _ ((n : Int) :: downL n) = _
  rw [List.filter_cons_of_neg (by rw [h]; simp)]
theorem at5 {P : Nat → Prop} (h0 : P 0) (h1 : P 1) (h2 : P 2) (h3 : P 3) (h4 : P 4) : ∀ j, j < 5 → P j := fun j hj => by
  match j, hj with
  | 0, _ => exact h0
  | 1, _ => exact h1
  | 2, _ => exact h2
  | 3, _ => exact h3
  | 4, _ => exact h4
theorem classes_ok {w : World} {F : Know} (hF : ∀ a v, F a = some v → w.cell? a = some v) {l : Ln} {A : Option Addr} {n c : Nat} : CallsF Try.prog 59 [.agg [.slice l.g.A l.g.n l.g.cap, .int .i64 l.g.cyc, .int .i64 l.per, .int .i64 l.sh, .slice A n c].toArray] w noK (fun v F2 => ∃ q, v = .func (.func 90) [].toArray [.pointer (some ⟨q, 0, none⟩)].toArray ∧ (∀ j, j < 5 → F2 ((⟨q, 0, none⟩ : Addr).add j) = ([.slice l.g.A l.g.n l.g.cap, .int .i64 l.g.cyc, .int .i64 l.per, .int .i64 l.sh, .slice A n c] : List Value)[j]?)) := by
  refine fn_fresh (F := F) Try.func59 rfl Try.ntmps59 rfl hF ?_
  refine t_seq ?_
  refine b0 ?_
  refine om1 rfl (new_boxN rfl) rfl rfl trivial (fun p1 => ?_)
  refine o1 rfl (det_assign rfl) rfl rfl trivial ?_
  refine be rfl ?_
  refine k_then ?_
  refine t_seq ?_
  refine b0 ?_
  refine o1 rfl (det_makeFunc rfl rfl) rfl rfl trivial ?_
  refine o1 rfl (det_assign rfl) rfl rfl trivial ?_
  refine be rfl ?_
  refine k_then ?_
  refine t_ret ?_
  refine ret_tmp rfl rfl rfl (fun w1 hs => ?_)
  exact end_fresh hs fun F2 _ _ h => ⟨p1, rfl, kn_all (h p1 _ _ _ · (.head _)) 0 5 (fun j hj => by rw [Nat.zero_add, List.getElem?_toArray]) (at5 rfl rfl rfl rfl rfl)⟩
theorem class_gives {F : Know} {l : Ln} {A : Option Addr} {n c : Nat} {hs0 : List Pt} (hP : PK F A n hs0) (h8 : hs0.length = 8) {q : Nat} (h1 : (∀ j, j < 5 → F ((⟨q, 0, none⟩ : Addr).add j) = ([.slice l.g.A l.g.n l.g.cap, .int .i64 l.g.cyc, .int .i64 l.per, .int .i64 l.sh, .slice A n c] : List Value)[j]?)) : Gives2 Try.prog 90 [.pointer (some ⟨q, 0, none⟩)] F ((classL hs0).map fun x => [Value.int .i64 x]) := by
  refine fn_gives2 Try.func90 rfl Try.ntmps90 rfl fun l J Jx w hR hJ => ?_
  refine t_seq ?_
  refine b0 ?_
  refine o1 rfl (det_loadKN tN107 rfl rfl h1) rfl rfl trivial ?_
  refine o1 rfl (det_makeFunc rfl rfl) rfl rfl trivial ?_
  refine o1 rfl (det_assign rfl) rfl rfl trivial ?_
  refine be rfl ?_
  refine k_then ?_
  refine t_seq ?_
  refine b0 ?_
  refine o1 rfl (det_assign rfl) rfl rfl trivial ?_
  refine be rfl ?_
  refine k_then ?_
  refine t_block ?_
  refine t_whileG (σ := Nat × Nat) (fun s => [(4, .int .i64 ((s.2 : Int) - 1))]) (fun s => s.2) (fun s => fun w1 => (classL hs0).drop s.1 = (downL s.2).filter (waitC hs0) ∧ s.1 ≤ (classL hs0).length ∧ s.2 ≤ 8 ∧ ∃ ids, J s.1 ids w1) (0, 8) (env0 := [(0, _), (3, _)]) ⟨rfl, Nat.zero_le _, Nat.le_refl _, hJ⟩ ⟨rfl, trivial⟩ ⟨rfl, rfl, trivial⟩ ?_
  rintro s w1 ⟨hdr, hsl, hs8, hJ⟩
  refine t_seq ?_
  refine t_seq ?_
  refine b0 ?_
  refine o1 rfl (det_move rfl) rfl rfl trivial ?_
  refine o1 rfl (det_geq rfl rfl) rfl rfl trivial ?_
  refine be rfl ?_
  refine k_then ?_
  refine t_condP decide_eq_true_iff rfl (fun hb => ?_) (fun hb => ?_)
  ·
    obtain ⟨m, hm⟩ : ∃ m, s.2 = m + 1 := ⟨s.2 - 1, by omega⟩
    rw [hm] at hdr
    rw [show ((s.2 : Nat) : Int) - 1 = (m : Int) by omega]
    refine t_skip ?_
    refine k_then ?_
    refine t_seq ?_
    refine t_block ?_
    refine t_seq ?_
    refine b0 ?_
    refine o1 rfl (det_move rfl) rfl rfl trivial ?_
    refine o1 rfl (det_move rfl) rfl rfl trivial ?_
    refine o1 rfl (det_call hb57 rfl rfl (fun w1 hs => waits_ok hs.know hP h8 (by omega))) rfl rfl trivial ?_
    refine o2P Iff.rfl rfl (det_move rfl) rfl rfl trivial (fun hb => ?_) (fun hb => ?_)
    ·
      rw [down_on hb] at hdr
      obtain ⟨hlt, hget, hd2⟩ := drop_head hdr
      --note:on
      refine o1 rfl (det_move rfl) rfl rfl ⟨_, rfl, rfl⟩ ?_
      refine o1 rfl (det_move rfl) rfl rfl ⟨_, rfl, rfl⟩ ?_
      refine oY2 hR hJ (by rw [List.length_map]; exact hlt) nofun rfl rfl rfl rfl ⟨_, rfl, rfl⟩ (by rw [List.getElem_map, hget]; rfl) (fun w1 hJ F1 hF1 hO1 hK1 => ?_) (fun w1 hX => ?_)
      ·
        refine o1 rfl (det_not rfl) rfl rfl ⟨_, rfl, rfl⟩ ?_
        refine o1 rfl (det_pickT rfl rfl) rfl rfl trivial ?_
        refine be rfl ?_
        refine k_then ?_
        refine t_condF rfl ?_
        refine t_skip ?_
        refine k_blk ?_
        refine k_then ?_
        refine b0 ?_
        refine o1 rfl (det_move rfl) rfl rfl trivial ?_
        first | (refine o1 rfl (det_subI rfl rfl ?_) rfl rfl trivial ?_; (· omega)) | refine o1 rfl (det_sub rfl rfl) rfl rfl trivial ?_
        refine o1 rfl (det_assign rfl) rfl rfl trivial ?_
        refine be rfl ?_
        refine k_then ?_
        refine loop_backG2 hF1 (s.1 + 1, m) ⟨hd2, by show s.1 + 1 ≤ _; omega, by show m ≤ 8; omega, hJ⟩ (by show m < s.2; omega) ⟨(by show _ = some (Value.int .i64 ((m : Int) - 1)); rfl), rfl, rfl, trivial⟩
      ·
        refine o1 rfl (det_not rfl) rfl rfl ⟨_, rfl, rfl⟩ ?_
        refine o1 rfl (det_pickT rfl rfl) rfl rfl trivial ?_
        refine be rfl ?_
        refine k_then ?_
        refine t_condT rfl ?_
        refine t_ret (k_blkR (k_thenR (k_thenR (k_blkR (?_)))))
        refine ret_any (vs := []) rfl rfl trivial rfl (fun w1 hs => ?_)
        obtain ⟨ids, hX⟩ := hX
        exact ⟨_, rfl, ids, .inr (hR.stx _ _ _ hX hs.keep)⟩
    ·
      rw [down_off (by simpa using hb)] at hdr
      have hd2 := hdr
      refine on rfl rfl rfl ⟨_, rfl, .inl rfl⟩ ?_
      refine on rfl rfl rfl ⟨_, rfl, .inl rfl⟩ ?_
      refine on rfl rfl rfl ⟨_, rfl, .inl rfl⟩ ?_
      refine on rfl rfl rfl ⟨_, rfl, .inl rfl⟩ ?_
      refine o1 rfl (det_pickF rfl rfl) rfl rfl trivial ?_
      refine be rfl ?_
      refine k_then ?_
      refine t_condF rfl ?_
      refine t_skip ?_
      refine k_blk ?_
      refine k_then ?_
      refine b0 ?_
      refine o1 rfl (det_move rfl) rfl rfl trivial ?_
      first | (refine o1 rfl (det_subI rfl rfl ?_) rfl rfl trivial ?_; (· omega)) | refine o1 rfl (det_sub rfl rfl) rfl rfl trivial ?_
      refine o1 rfl (det_assign rfl) rfl rfl trivial ?_
      refine be rfl ?_
      refine k_then ?_
      refine loop_backG2 incl_refl (s.1, m) ⟨hd2, by show s.1 ≤ _; omega, by show m ≤ 8; omega, hJ⟩ (by show m < s.2; omega) ⟨(by show _ = some (Value.int .i64 ((m : Int) - 1)); rfl), rfl, rfl, trivial⟩
  ·
    have h0 : s.2 = 0 := by omega
    rw [h0] at hdr
    have hse := drop_nil (show _ = [] from hdr) hsl
    refine t_exit ?_
    refine k_thenE ?_
    refine k_thenE ?_
    refine k_blkE ?_
    refine end_none rfl rfl (fun w1 hs => ?_)
    obtain ⟨ids, hJ⟩ := hJ
    exact ⟨_, rfl, ids, .inl (hR.st _ _ _ _ (by rw [List.length_map, ← hse]; exact hJ) hs.keep)⟩
end Go.Proofs.Cp

/-
  Walks through layers 36, 37 and 38 and their references.
-/
namespace Go.Proofs.Cp
open Go Go.Eng Go.Gt Go.Proofs.Gt Go.Sw Go.Qu Go.Ch
set_option maxRecDepth 4000
end Go.Proofs.Cp

/-
  Walks through layers 36, 37 and 38 and their references.
-/
namespace Go.Proofs.Cp
open Go Go.Eng Go.Gt Go.Proofs.Gt Go.Sw Go.Qu Go.Ch
set_option maxRecDepth 4000
theorem start_ok {w : World} {F : Know} (hF : ∀ a v, F a = some v → w.cell? a = some v) {l : Ln} (hl : LnK F l) {A : Option Addr} {n c : Nat} {hs0 : List Pt} (hP : PK F A n hs0) (hnb : n ≤ 100000) {t : Int} : Pure Try.prog 22 [.agg (lnv l).toArray, .slice A n c, .int .i64 t] w (.tuple [.int .i64 (startA l hs0 t).1, .int .i64 (startA l hs0 t).2].toArray) := by
  refine fn_pure (F := F) Try.func22 rfl Try.ntmps22 rfl hF ?_
  refine t_seq ?_
  refine b0 ?_
  refine om1 rfl (new_boxN rfl) rfl rfl trivial (fun p3 => ?_)
  refine om1 rfl (new_box1 rfl rfl) rfl rfl trivial (fun p5 => ?_)
  refine o1 rfl (det_assign rfl) rfl rfl trivial ?_
  refine o1 rfl (det_assign rfl) rfl rfl trivial ?_
  refine be rfl ?_
  refine k_then ?_
  refine t_scope0 ?_
  refine t_seq ?_
  refine t_seq ?_
  refine b0 ?_
  refine o1 rfl (det_loadN tN26 rfl rfl (.tail _ (.head _)) rfl) rfl rfl trivial ?_
  refine o1 rfl (det_move rfl) rfl rfl trivial ?_
  refine o1 rfl (det_load1 t1_3 rfl rfl (.head _) rfl) rfl rfl trivial ?_
  refine o1 rfl (det_call hb56 rfl rfl (fun w1 hs => cvalid_ok hs.know hl hP hnb)) rfl rfl trivial ?_
  refine o1 rfl (det_assign rfl) rfl rfl trivial ?_
  refine be rfl ?_
  refine k_then ?_
  refine t_seq ?_
  refine b0 ?_
  refine o1 rfl (det_move rfl) rfl rfl trivial ?_
  refine o1 rfl (det_neq rfl rfl) rfl rfl trivial ?_
  refine be rfl ?_
  refine k_then ?_
  refine t_condP bne_iff_ne rfl (fun hb => ?_) (fun hb => ?_)
  ·
    have he : errC l hs0 t ≠ 0 := hb
    refine t_seq ?_
    refine b0 ?_
    refine o1 rfl (det_move rfl) rfl rfl trivial ?_
    refine o1 rfl (det_assign rfl) rfl rfl trivial ?_
    refine o1 rfl (det_assign rfl) rfl rfl trivial ?_
    refine be rfl ?_
    refine k_then ?_
    refine t_ret (k_thenR (k_nogR (?_)))
    refine ret_tmp2 rfl rfl rfl rfl (fun w1 hs => ?_)
    first
    | exact ⟨by unfold startA; rw [if_pos he], hs.keep⟩
    | exact ⟨by unfold startA; rw [if_neg (by simp [he]), hno]; rfl, hs.keep⟩
    | exact ⟨by unfold startA; rw [if_neg (by simp [he]), hse]; rfl, hs.keep⟩
    | (exfalso; omega)
  ·
    have he : errC l hs0 t = 0 := by simpa using hb
    obtain ⟨hL, hH, ht⟩ := errC_zero he
    have hLp := okL_parts hL
    have h8 := (okH_parts hH).1
    refine t_skip ?_
    refine k_then ?_
    refine t_seq ?_
    refine b0 ?_
    refine o1 rfl (det_loadN tN26 rfl rfl (.tail _ (.head _)) rfl) rfl rfl trivial ?_
    refine o1 rfl (det_move rfl) rfl rfl trivial ?_
    refine o1 rfl (det_build rfl (fun w => bld107_0_1 _ _ _ _ _ _ _ _ _ w)) rfl rfl trivial ?_
    refine om1 rfl (new_alloc z107) rfl rfl trivial (fun p9 => ?_)
    refine stN nofun rfl tN107 rfl rfl rfl .head rfl trivial rfl rfl ?_
    refine be rfl ?_
    refine k_then ?_
    refine t_seq ?_
    refine b0 ?_
    refine om1 rfl (new_alloc z3) rfl rfl trivial (fun p10 => ?_)
    refine st1 nofun rfl t1_3 rfl rfl rfl .head rfl trivial rfl ?_
    refine be rfl ?_
    refine k_then ?_
    refine t_seq ?_
    refine t_label ?_
    refine k_then ?_
    refine t_seq ?_
    refine t_seq ?_
    refine b0 ?_
    refine o1 rfl (det_loadN tN107 rfl rfl (.tail _ (.head _)) rfl) rfl rfl trivial ?_
    refine oF nofun rfl hb59 rfl rfl rfl trivial (fun w1 hs => (classes_ok hs.know).any) (fun v F1 hF1 hN1 ⟨q, hv, hq⟩ => ?_)
    subst hv
    refine be rfl ?_
    refine k_then ?_
    refine t_block ?_
    refine t_rangeF2 (σ := Int) (fun s => [(p10, .cells [.int .i64 s].toArray 3 (0, 0)), (p9, .cells [.slice l.g.A l.g.n l.g.cap, .int .i64 l.g.cyc, .int .i64 l.per, .int .i64 l.sh, .slice A n c].toArray 107 (0, 0)), (p5, .cells [.int .i64 t].toArray 3 (0, 0)), (p3, .cells (lnv l).toArray 26 (0, 0))]) (fun k s => s = -1 ∧ ∀ i, i < k → fitC l hs0 ((classL hs0).getD i 0) t = false) (fun j s => j = .exit 0 ∧ startL l hs0 t = some s) (-1) (fun k => [.int .i64 ((classL hs0).getD k 0)]) (xs := (classL hs0).map fun x => [Value.int .i64 x]) (env0 := [(5, _), (6, _), (7, _), (9, _), (10, _)]) rfl hb90 (class_gives (hP.mono hF1) h8 hq) (fun k hk => by rw [List.getElem_map]; rw [List.length_map] at hk; simp [hk]) (fun _ => rfl) rfl ⟨rfl, fun i hi => absurd hi (Nat.not_lt_zero i)⟩ ⟨rfl, rfl, rfl, rfl, rfl, trivial⟩ (.refl _) ?_ ?_ ?_
    ·
      rintro W2 S2 l D r k s hr hk ⟨hs0e, hI⟩
      rw [List.length_map] at hk
      refine b0 ?_
      refine o1 rfl (det_assign rfl) rfl rfl trivial ?_
      refine be rfl ?_
      refine k_then ?_
      refine k_begin (pre := [_, _, _, _]) hr.1 rfl ?_
      refine t_block ?_
      refine t_seq ?_
      refine b0 ?_
      refine o1 rfl (det_loadN tN107 rfl rfl (.tail _ (.head _)) rfl) rfl rfl trivial ?_
      refine o1 rfl (det_move rfl) rfl rfl trivial ?_
      refine o1 rfl (det_load1 t1_3 rfl rfl (.tail _ (.tail _ (.head _))) rfl) rfl rfl trivial ?_
      refine o1 rfl (det_call hb58 rfl rfl (fun w1 hs => vfits_ok hs.know (EntK.mono hl hF1) (hP.mono hF1) h8 (class_at hk).1 hLp.2.1 (okH_left hH (class_at hk).1) hLp.2.2 (by omega))) rfl rfl trivial ?_
      refine be rfl ?_
      refine k_then ?_
      refine t_condP Iff.rfl rfl (fun hb => ?_) (fun hb => ?_)
      ·
        refine t_seq ?_
        refine b0 ?_
        refine o1 rfl (det_move rfl) rfl rfl trivial ?_
        refine st1 nofun rfl t1_3 rfl rfl rfl .head rfl trivial rfl ?_
        refine be rfl ?_
        refine k_then ?_
        refine t_exit ?_
        refine k_blkN (by decide) ?_
        refine round_exit ((classL hs0).getD k 0) ⟨rfl, start_some hk hI hb⟩ (.refl _) rfl rfl
      ·
        refine t_skip ?_
        refine k_blk ?_
        refine round_next s hr ⟨hs0e, fun i hi => by
            by_cases e : i = k
            · subst e; simpa using hb
            · exact hI i (by omega)⟩ (.refl _) rfl rfl
    ·
      rintro D s ⟨hs0e, hI⟩
      rw [List.length_map] at hI
      have hno := start_none hI
      refine k_blk ?_
      refine k_then ?_
      refine t_seq ?_
      refine t_seq ?_
      refine b0 ?_
      refine o1 rfl (det_load1 t1_3 rfl rfl (.head _) rfl) rfl rfl trivial ?_
      refine o1 rfl (det_lss rfl rfl) rfl rfl trivial ?_
      refine be rfl ?_
      refine k_then ?_
      refine t_condP decide_eq_true_iff rfl (fun hb => ?_) (fun hb => ?_)
      ·
        skip
        refine t_seq ?_
        refine b0 ?_
        refine o1 rfl (det_assign rfl) rfl rfl trivial ?_
        refine o1 rfl (det_assign rfl) rfl rfl trivial ?_
        refine be rfl ?_
        refine k_then ?_
        refine t_ret (k_thenR (k_nogR (?_)))
        refine ret_mark (pre := [_, _, _, _]) (vs := [_, _]) rfl rfl ⟨(.tmp rfl), (.tmp rfl), trivial⟩ rfl (fun w1 hs => ?_)
        first
        | exact ⟨by unfold startA; rw [if_pos he], hs.keep⟩
        | exact ⟨by unfold startA; rw [if_neg (by simp [he]), hno]; rfl, hs.keep⟩
        | exact ⟨by unfold startA; rw [if_neg (by simp [he]), hse]; rfl, hs.keep⟩
        | (exfalso; omega)
      ·
        skip
        refine t_skip ?_
        refine k_then ?_
        refine t_seq ?_
        refine b0 ?_
        refine o1 rfl (det_load1 t1_3 rfl rfl (.head _) rfl) rfl rfl trivial ?_
        refine o1 rfl (det_assign rfl) rfl rfl trivial ?_
        refine o1 rfl (det_assign rfl) rfl rfl trivial ?_
        refine be rfl ?_
        refine k_then ?_
        refine t_ret (k_nogR (?_))
        refine ret_mark (pre := [_, _, _, _]) (vs := [_, _]) rfl rfl ⟨(.tmp rfl), (.tmp rfl), trivial⟩ rfl (fun w1 hs => ?_)
        first
        | exact ⟨by unfold startA; rw [if_pos he], hs.keep⟩
        | exact ⟨by unfold startA; rw [if_neg (by simp [he]), hno]; rfl, hs.keep⟩
        | exact ⟨by unfold startA; rw [if_neg (by simp [he]), hse]; rfl, hs.keep⟩
        | (exfalso; omega)
    ·
      rintro D j s ⟨hj, hse⟩
      subst hj
      have hsr := startL_rng hse
      --note:x
      refine t_exit ?_
      refine k_blkE ?_
      refine k_then ?_
      refine t_seq ?_
      refine t_seq ?_
      refine b0 ?_
      refine o1 rfl (det_load1 t1_3 rfl rfl (.head _) rfl) rfl rfl trivial ?_
      refine o1 rfl (det_lss rfl rfl) rfl rfl trivial ?_
      refine be rfl ?_
      refine k_then ?_
      refine t_condP decide_eq_true_iff rfl (fun hb => ?_) (fun hb => ?_)
      ·
        skip
        refine t_seq ?_
        refine b0 ?_
        refine o1 rfl (det_assign rfl) rfl rfl trivial ?_
        refine o1 rfl (det_assign rfl) rfl rfl trivial ?_
        refine be rfl ?_
        refine k_then ?_
        refine t_ret (k_thenR (k_nogR (?_)))
        refine ret_mark (pre := [_, _, _, _]) (vs := [_, _]) rfl rfl ⟨(.tmp rfl), (.tmp rfl), trivial⟩ rfl (fun w1 hs => ?_)
        first
        | exact ⟨by unfold startA; rw [if_pos he], hs.keep⟩
        | exact ⟨by unfold startA; rw [if_neg (by simp [he]), hno]; rfl, hs.keep⟩
        | exact ⟨by unfold startA; rw [if_neg (by simp [he]), hse]; rfl, hs.keep⟩
        | (exfalso; omega)
      ·
        skip
        refine t_skip ?_
        refine k_then ?_
        refine t_seq ?_
        refine b0 ?_
        refine o1 rfl (det_load1 t1_3 rfl rfl (.head _) rfl) rfl rfl trivial ?_
        refine o1 rfl (det_assign rfl) rfl rfl trivial ?_
        refine o1 rfl (det_assign rfl) rfl rfl trivial ?_
        refine be rfl ?_
        refine k_then ?_
        refine t_ret (k_nogR (?_))
        refine ret_mark (pre := [_, _, _, _]) (vs := [_, _]) rfl rfl ⟨(.tmp rfl), (.tmp rfl), trivial⟩ rfl (fun w1 hs => ?_)
        first
        | exact ⟨by unfold startA; rw [if_pos he], hs.keep⟩
        | exact ⟨by unfold startA; rw [if_neg (by simp [he]), hno]; rfl, hs.keep⟩
        | exact ⟨by unfold startA; rw [if_neg (by simp [he]), hse]; rfl, hs.keep⟩
        | (exfalso; omega)
end Go.Proofs.Cp

/-
  Walks through layers 36, 37 and 38 and their references.
-/
namespace Go.Proofs.Cp
open Go Go.Eng Go.Gt Go.Proofs.Gt Go.Sw Go.Qu Go.Ch
set_option maxRecDepth 4000
theorem Fit_at {w : World} {F : Know} (hF : ∀ a v, F a = some v → w.cell? a = some v) {l : Ln} (hl : LnK F l) {cl t lg : Int} (hcl : 0 ≤ cl ∧ cl ≤ 7) : Pure Try.prog 64 [.agg (glv l.g).toArray, .int .i64 cl, .int .i64 t, .int .i64 lg] w (.tuple [.int .i64 (fitA l.g.es l.g.cyc cl t lg).1, .int .i64 (fitA l.g.es l.g.cyc cl t lg).2].toArray) := Fit_ok (cap := l.g.cap) hF hl cl (by omega) t lg
theorem when1_ok {w : World} {F : Know} (hF : ∀ a v, F a = some v → w.cell? a = some v) {l : Ln} (hl : LnK F l) {A : Option Addr} {n c : Nat} {hs0 : List Pt} (hP : PK F A n hs0)  (hL : okL l = true) (hH : okH hs0 = true) {t : Int} (ht : 0 ≤ t ∧ t ≤ 549755813888) {q1 q2 q3 : Nat} (h1 : ∀ j, j < 4 → F ((⟨q1, 0, none⟩ : Addr).add j) = (lnv l)[j]?) (h2 : F ⟨q2, 0, none⟩ = some (.int .i64 t)) (h3 : ∀ j, j < 5 → F ((⟨q3, 0, none⟩ : Addr).add j) = ([.slice l.g.A l.g.n l.g.cap, .int .i64 l.g.cyc, .int .i64 l.per, .int .i64 l.sh, .slice A n c] : List Value)[j]?) {cl : Int} (hcl : 0 ≤ cl ∧ cl ≤ 7) : Pure Try.prog 63 [.int .i64 cl, .pointer (some ⟨q1, 0, none⟩), .pointer (some ⟨q2, 0, none⟩), .pointer (some ⟨q3, 0, none⟩)] w (.tuple [.int .i64 (whenF l hs0 t cl).1, .int .i64 (whenF l hs0 t cl).2].toArray) := by
  have hLp := okL_parts hL
  have h8 := (okH_parts hH).1
  have hsh := hLp.2.2
  have hfb := fitA_rng (okL_parts hL).1 (cl := cl) (t := t + l.sh) (lg := longC l hs0 cl)
  refine fn_pure (F := F) Try.func63 rfl Try.ntmps63 rfl hF ?_
  refine t_seq ?_
  refine b0 ?_
  refine o1 rfl (det_assign rfl) rfl rfl trivial ?_
  refine o1 rfl (det_assign rfl) rfl rfl trivial ?_
  refine be rfl ?_
  refine k_then ?_
  refine t_seq ?_
  refine bD mixed ?_
  refine r_seg 16 16 [] [0, 1, 2, 3, 4, 5, 6, 7, 8, 9, 10, 11, 12, 13, 14, 15] (by kernel_rfl) ?_
  refine s1 rfl (det_fieldAddr fld26_0 rfl) rfl rfl trivial rfl ?_
  refine s1 rfl (det_loadKN tN24 rfl (glv_len l.g) (ln_cells h1)) rfl rfl trivial rfl ?_
  refine s1 rfl (det_move rfl) rfl rfl trivial rfl ?_
  refine s1 rfl (det_loadK t1_3 rfl h2) rfl rfl trivial rfl ?_
  refine s1 rfl (det_fieldAddr fld26_2 rfl) rfl rfl trivial rfl ?_
  refine s1 rfl (det_loadK t1_3 rfl (h1 3 (by decide))) rfl rfl trivial rfl ?_
  first | (refine s1 rfl (det_addI rfl rfl ?_) rfl rfl trivial rfl ?_; (· omega)) | refine s1 rfl (det_add rfl rfl) rfl rfl trivial rfl ?_
  refine s1 rfl (det_loadKN tN107 rfl rfl h3) rfl rfl trivial rfl ?_
  refine s1 rfl (det_move rfl) rfl rfl trivial rfl ?_
  refine s1 rfl (det_call hb65 rfl rfl (fun w1 hs => long_ok hs.know hP h8 hcl hLp.2.1 (okH_left hH hcl))) rfl rfl trivial rfl ?_
  refine s1 rfl (det_call hb64 rfl rfl (fun w1 hs => Fit_at hs.know hl hcl)) rfl rfl trivial rfl ?_
  refine s1 rfl (det_move rfl) rfl rfl trivial rfl ?_
  refine s1 rfl (det_extract rfl rfl) rfl rfl trivial rfl ?_
  refine s1 rfl (det_extract rfl rfl) rfl rfl trivial rfl ?_
  refine s1 rfl (det_assign rfl) rfl rfl trivial rfl ?_
  refine s1 rfl (det_assign rfl) rfl rfl trivial rfl ?_
  refine sg_nil ?_
  refine be rfl ?_
  refine k_then ?_
  refine t_seq ?_
  refine b0 ?_
  refine o1 rfl (det_move rfl) rfl rfl trivial ?_
  refine o1 rfl (det_fieldAddr fld26_2 rfl) rfl rfl trivial ?_
  refine o1 rfl (det_loadK t1_3 rfl (h1 3 (by decide))) rfl rfl trivial ?_
  first | (refine o1 rfl (det_subI rfl rfl ?_) rfl rfl trivial ?_; (· omega)) | refine o1 rfl (det_sub rfl rfl) rfl rfl trivial ?_
  refine o1 rfl (det_move rfl) rfl rfl trivial ?_
  refine o1 rfl (det_assign rfl) rfl rfl trivial ?_
  refine o1 rfl (det_assign rfl) rfl rfl trivial ?_
  refine be rfl ?_
  refine k_then ?_
  refine t_ret ?_
  refine ret_tmp2 rfl rfl rfl rfl (fun w1 hs => ?_)
  exact ⟨rfl, hs.keep⟩
theorem least_ok {w : World} {F : Know} (hF : ∀ a v, F a = some v → w.cell? a = some v) {l : Ln} (hl : LnK F l) {A : Option Addr} {n c : Nat} {hs0 : List Pt} (hP : PK F A n hs0)  (hL : okL l = true) (hH : okH hs0 = true) {t : Int} (ht : 0 ≤ t ∧ t ≤ 549755813888) {q q1 q2 q3 : Nat} (hq : (∀ j, j < 5 → F ((⟨q, 0, none⟩ : Addr).add j) = ([.slice l.g.A l.g.n l.g.cap, .int .i64 l.g.cyc, .int .i64 l.per, .int .i64 l.sh, .slice A n c] : List Value)[j]?)) (h1 : ∀ j, j < 4 → F ((⟨q1, 0, none⟩ : Addr).add j) = (lnv l)[j]?) (h2 : F ⟨q2, 0, none⟩ = some (.int .i64 t)) (h3 : ∀ j, j < 5 → F ((⟨q3, 0, none⟩ : Addr).add j) = ([.slice l.g.A l.g.n l.g.cap, .int .i64 l.g.cyc, .int .i64 l.per, .int .i64 l.sh, .slice A n c] : List Value)[j]?) : Pure Try.prog 62 [.func (.func 90) [].toArray [.pointer (some ⟨q, 0, none⟩)].toArray, .func (.func 63) [].toArray [.pointer (some ⟨q1, 0, none⟩), .pointer (some ⟨q2, 0, none⟩), .pointer (some ⟨q3, 0, none⟩)].toArray] w (.tuple [.int .i64 (orE (whenL l hs0 t)).1, .int .i64 (orE (whenL l hs0 t)).2].toArray) := by
  have h8 := (okH_parts hH).1
  refine fn_pure (F := F) Try.func62 rfl Try.ntmps62 rfl hF ?_
  refine t_seq ?_
  refine b0 ?_
  refine om1 rfl (new_box1 rfl rfl) rfl rfl trivial (fun p3 => ?_)
  refine o1 rfl (det_assign rfl) rfl rfl trivial ?_
  refine o1 rfl (det_assign rfl) rfl rfl trivial ?_
  refine be rfl ?_
  refine k_then ?_
  refine t_seq ?_
  refine b0 ?_
  refine om1 rfl (new_alloc z3) rfl rfl trivial (fun p6 => ?_)
  refine om1 rfl (new_alloc z31) rfl rfl trivial (fun p7 => ?_)
  refine st1 nofun rfl t1_3 rfl rfl rfl (.tail .head) rfl trivial rfl ?_
  refine st1 nofun rfl t1_31 rfl rfl rfl .head rfl trivial rfl ?_
  refine be rfl ?_
  refine k_then ?_
  refine t_seq ?_
  refine t_seq ?_
  refine b0 ?_
  refine o1 rfl (det_move rfl) rfl rfl trivial ?_
  refine be rfl ?_
  refine k_then ?_
  refine t_block ?_
  refine t_rangeF2 (σ := Option Int) (fun s => [(p7, .cells [.int .i64 (orE s).2].toArray 31 (0, 0)), (p6, .cells [.int .i64 (orE s).1].toArray 3 (0, 0)), (p3, .cells [.func (.func 63) [].toArray [.pointer (some ⟨q1, 0, none⟩), .pointer (some ⟨q2, 0, none⟩), .pointer (some ⟨q3, 0, none⟩)].toArray].toArray 118 (0, 0))]) (fun k s => s = lstK (whenXs l hs0 t) k) (fun _ s => False) none (fun k => [.int .i64 ((classL hs0).getD k 0)]) (xs := (classL hs0).map fun x => [Value.int .i64 x]) (env0 := [(3, _), (4, _), (5, _), (6, _), (7, _)]) rfl hb90 (class_gives hP h8 hq) (fun k hk => by rw [List.getElem_map]; rw [List.length_map] at hk; simp [hk]) (fun _ => rfl) rfl rfl ⟨rfl, rfl, rfl, rfl, rfl, trivial⟩ (.refl _) ?_ ?_ ?_
  ·
    rintro W2 S2 lp0 D r k s hr hk hI
    rw [List.length_map] at hk
    have hst := lstK_succ (xs := whenXs l hs0 t) (k := k) (by simpa [whenXs] using hk)
    rw [← hI, show (whenXs l hs0 t)[k]'(by simpa [whenXs] using hk) = whenF l hs0 t ((classL hs0).getD k 0) by simp [whenXs, hk]] at hst
    refine b0 ?_
    refine o1 rfl (det_assign rfl) rfl rfl trivial ?_
    refine be rfl ?_
    refine k_then ?_
    refine k_begin (pre := [_, _, _]) hr.1 rfl ?_
    refine t_block ?_
    refine t_seq ?_
    refine b0 ?_
    refine o1 rfl (det_load1 t1_118 rfl rfl (.tail _ (.tail _ (.head _))) rfl) rfl rfl trivial ?_
    refine o1 rfl (det_move rfl) rfl rfl trivial ?_
    refine o1 rfl (det_call hb63 rfl rfl (fun w1 hs => when1_ok hs.know hl hP hL hH ht h1 h2 h3 (class_at hk).1)) rfl rfl trivial ?_
    refine o1 rfl (det_move rfl) rfl rfl trivial ?_
    refine o1 rfl (det_extract rfl rfl) rfl rfl trivial ?_
    refine o1 rfl (det_extract rfl rfl) rfl rfl trivial ?_
    refine o1 rfl (det_assign rfl) rfl rfl trivial ?_
    refine o1 rfl (det_assign rfl) rfl rfl trivial ?_
    refine be rfl ?_
    refine k_then ?_
    refine t_seq ?_
    refine b0 ?_
    refine o1 rfl (det_move rfl) rfl rfl trivial ?_
    refine o1 rfl (det_eql rfl rfl) rfl rfl trivial ?_
    refine o2P beq_iff_eq rfl (det_move rfl) rfl rfl trivial (fun hb => ?_) (fun hb => ?_)
    ·
      refine o1 rfl (det_load1 t1_31 rfl rfl (.head _) rfl) rfl rfl ⟨_, rfl, rfl⟩ ?_
      refine o1 rfl (det_neq rfl rfl) rfl rfl ⟨_, rfl, rfl⟩ ?_
      refine o2P bne_iff_ne rfl (det_move rfl) rfl rfl ⟨_, rfl, rfl⟩ (fun hb => ?_) (fun hb => ?_)
      ·
        refine on rfl rfl rfl ⟨_, rfl, .inl rfl⟩ ?_
        refine on rfl rfl rfl ⟨_, rfl, .inl rfl⟩ ?_
        refine on rfl rfl rfl ⟨_, rfl, .inl rfl⟩ ?_
        refine o1 rfl (det_pickT rfl rfl) rfl rfl ⟨_, rfl, rfl⟩ ?_
        refine o1 rfl (det_pickT rfl rfl) rfl rfl trivial ?_
        refine be rfl ?_
        refine k_then ?_
        refine t_condT rfl ?_
        refine b0 ?_
        refine o1 rfl (det_move rfl) rfl rfl trivial ?_
        refine st1 nofun rfl t1_3 rfl rfl rfl (.tail .head) rfl trivial rfl ?_
        refine st1 nofun rfl t1_31 rfl rfl rfl .head rfl trivial rfl ?_
        refine be rfl ?_
        refine k_blk ?_
        first
        | exact round_next (some (whenF l hs0 t ((classL hs0).getD k 0)).1) hr (by rw [hst]; cases s <;> grind [minS, orE]) (.refl _) rfl rfl
        | exact round_next s hr (by rw [hst]; cases s <;> grind [minS, orE]) (.refl _) rfl rfl
      ·
        refine o1 rfl (det_move rfl) rfl rfl ⟨_, rfl, rfl⟩ ?_
        refine o1 rfl (det_load1 t1_3 rfl rfl (.tail _ (.head _)) rfl) rfl rfl ⟨_, rfl, rfl⟩ ?_
        refine o1 rfl (det_lss rfl rfl) rfl rfl ⟨_, rfl, rfl⟩ ?_
        refine o1 rfl (det_pickF rfl rfl) rfl rfl ⟨_, rfl, rfl⟩ ?_
        refine o1 rfl (det_pickT rfl rfl) rfl rfl trivial ?_
        refine be rfl ?_
        refine k_then ?_
        refine t_condP decide_eq_true_iff rfl (fun hb => ?_) (fun hb => ?_)
        ·
          --note:take
          refine b0 ?_
          refine o1 rfl (det_move rfl) rfl rfl trivial ?_
          refine st1 nofun rfl t1_3 rfl rfl rfl (.tail .head) rfl trivial rfl ?_
          refine st1 nofun rfl t1_31 rfl rfl rfl .head rfl trivial rfl ?_
          refine be rfl ?_
          refine k_blk ?_
          first
          | exact round_next (some (whenF l hs0 t ((classL hs0).getD k 0)).1) hr (by rw [hst]; cases s <;> grind [minS, orE]) (.refl _) rfl rfl
          | exact round_next s hr (by rw [hst]; cases s <;> grind [minS, orE]) (.refl _) rfl rfl
        ·
          skip
          refine t_skip ?_
          refine k_blk ?_
          first
          | exact round_next (some (whenF l hs0 t ((classL hs0).getD k 0)).1) hr (by rw [hst]; cases s <;> grind [minS, orE]) (.refl _) rfl rfl
          | exact round_next s hr (by rw [hst]; cases s <;> grind [minS, orE]) (.refl _) rfl rfl
    ·
      refine on rfl rfl rfl ⟨_, rfl, .inl rfl⟩ ?_
      refine on rfl rfl rfl ⟨_, rfl, .inl rfl⟩ ?_
      refine on rfl rfl rfl ⟨_, rfl, .inl rfl⟩ ?_
      refine on rfl rfl rfl ⟨_, rfl, .inr rfl⟩ ?_
      refine on rfl rfl rfl ⟨_, rfl, .inr rfl⟩ ?_
      refine on rfl rfl rfl ⟨_, rfl, .inr rfl⟩ ?_
      refine on rfl rfl rfl ⟨_, rfl, .inl rfl⟩ ?_
      refine o1 rfl (det_pickF rfl rfl) rfl rfl trivial ?_
      refine be rfl ?_
      refine k_then ?_
      refine t_condF rfl ?_
      refine t_skip ?_
      refine k_blk ?_
      first
      | exact round_next (some (whenF l hs0 t ((classL hs0).getD k 0)).1) hr (by rw [hst]; cases s <;> grind [minS, orE]) (.refl _) rfl rfl
      | exact round_next s hr (by rw [hst]; cases s <;> grind [minS, orE]) (.refl _) rfl rfl
  ·
    rintro D s hI
    rw [List.length_map] at hI
    have hI2 : s = whenL l hs0 t := by rw [hI, show (classL hs0).length = (whenXs l hs0 t).length by simp [whenXs]]; exact lstK_all
    refine k_blk ?_
    refine k_then ?_
    refine t_seq ?_
    refine bD mixed ?_
    refine r_seg 4 4 [] [0, 1, 2, 3] (by kernel_rfl) ?_
    refine s1 rfl (det_load1 t1_3 rfl rfl (.tail _ (.head _)) rfl) rfl rfl trivial rfl ?_
    refine s1 rfl (det_load1 t1_31 rfl rfl (.head _) rfl) rfl rfl trivial rfl ?_
    refine s1 rfl (det_assign rfl) rfl rfl trivial rfl ?_
    refine s1 rfl (det_assign rfl) rfl rfl trivial rfl ?_
    refine sg_nil ?_
    refine be rfl ?_
    refine k_then ?_
    refine t_ret ?_
    refine ret_mark (pre := [_, _, _]) (vs := [_, _]) rfl rfl ⟨(.tmp rfl), (.tmp rfl), trivial⟩ rfl (fun w1 hs => ?_)
    rw [← hI2]
    exact ⟨rfl, hs.keep⟩
  ·
    rintro D j s hX
    exact hX.elim
end Go.Proofs.Cp

/-
  Walks through layers 36, 37 and 38 and their references.
-/
namespace Go.Proofs.Cp
open Go Go.Eng Go.Gt Go.Proofs.Gt Go.Sw Go.Qu Go.Ch
set_option maxRecDepth 4000
theorem when_ok {w : World} {F : Know} (hF : ∀ a v, F a = some v → w.cell? a = some v) {l : Ln} (hl : LnK F l) {A : Option Addr} {n c : Nat} {hs0 : List Pt} (hP : PK F A n hs0) (hnb : n ≤ 100000) {t : Int} : Pure Try.prog 26 [.agg (lnv l).toArray, .slice A n c, .int .i64 t] w (.tuple [.int .i64 (whenA l hs0 t).1, .int .i64 (whenA l hs0 t).2].toArray) := by
  refine fn_pure (F := F) Try.func26 rfl Try.ntmps26 rfl hF ?_
  refine t_seq ?_
  refine b0 ?_
  refine om1 rfl (new_boxN rfl) rfl rfl trivial (fun p3 => ?_)
  refine om1 rfl (new_box1 rfl rfl) rfl rfl trivial (fun p5 => ?_)
  refine o1 rfl (det_assign rfl) rfl rfl trivial ?_
  refine o1 rfl (det_assign rfl) rfl rfl trivial ?_
  refine be rfl ?_
  refine k_then ?_
  refine t_seq ?_
  refine t_seq ?_
  refine b0 ?_
  refine o1 rfl (det_loadN tN26 rfl rfl (.tail _ (.head _)) rfl) rfl rfl trivial ?_
  refine o1 rfl (det_move rfl) rfl rfl trivial ?_
  refine o1 rfl (det_load1 t1_3 rfl rfl (.head _) rfl) rfl rfl trivial ?_
  refine o1 rfl (det_call hb56 rfl rfl (fun w1 hs => cvalid_ok hs.know hl hP hnb)) rfl rfl trivial ?_
  refine o1 rfl (det_assign rfl) rfl rfl trivial ?_
  refine be rfl ?_
  refine k_then ?_
  refine t_seq ?_
  refine b0 ?_
  refine o1 rfl (det_move rfl) rfl rfl trivial ?_
  refine o1 rfl (det_neq rfl rfl) rfl rfl trivial ?_
  refine be rfl ?_
  refine k_then ?_
  refine t_condP bne_iff_ne rfl (fun hb => ?_) (fun hb => ?_)
  ·
    have he : errC l hs0 t ≠ 0 := hb
    refine t_seq ?_
    refine b0 ?_
    refine o1 rfl (det_move rfl) rfl rfl trivial ?_
    refine o1 rfl (det_assign rfl) rfl rfl trivial ?_
    refine o1 rfl (det_assign rfl) rfl rfl trivial ?_
    refine be rfl ?_
    refine k_then ?_
    refine t_ret (k_thenR (?_))
    refine ret_tmp2 rfl rfl rfl rfl (fun w1 hs => ?_)
    first
    | exact ⟨by unfold whenA; rw [if_pos he], hs.keep⟩
    | exact ⟨by unfold whenA; rw [if_neg (by simp [he])], hs.keep⟩
  ·
    have he : errC l hs0 t = 0 := by simpa using hb
    obtain ⟨hL, hH, ht⟩ := errC_zero he
    have hLp := okL_parts hL
    have h8 := (okH_parts hH).1
    refine t_skip ?_
    refine k_then ?_
    refine t_seq ?_
    refine b0 ?_
    refine o1 rfl (det_loadN tN26 rfl rfl (.tail _ (.head _)) rfl) rfl rfl trivial ?_
    refine o1 rfl (det_move rfl) rfl rfl trivial ?_
    refine o1 rfl (det_build rfl (fun w => bld107_0_1 _ _ _ _ _ _ _ _ _ w)) rfl rfl trivial ?_
    refine om1 rfl (new_alloc z107) rfl rfl trivial (fun p9 => ?_)
    refine stN nofun rfl tN107 rfl rfl rfl .head rfl trivial rfl rfl ?_
    refine be rfl ?_
    refine k_then ?_
    refine t_seq ?_
    refine b0 ?_
    refine tk_freeze (pre := []) rfl (fun Fc hFc hNFc hKFc => ?_)
    refine tk_freeze (pre := []) rfl (fun Fb hFb hNFb hKFb => ?_)
    refine tk_freeze (pre := []) rfl (fun Fa hFa hNFa hKFa => ?_)
    have h5 : Fa ⟨p5, 0, none⟩ = some (.int .i64 t) := hFa _ _ (hKFb 0 _ rfl)
    have h3 : ∀ j, j < 4 → Fa ((⟨p3, 0, none⟩ : Addr).add j) = (lnv l)[j]? := by
      intro j hj
      obtain ⟨u, hu⟩ : ∃ u, (lnv l)[j]? = some u := ⟨_, List.getElem?_eq_getElem (by rw [lnv_len]; exact hj)⟩
      rw [hu, add_mk, Nat.zero_add]
      exact hKFa j u hu
    have h9 : ∀ j, j < 5 → Fa ((⟨p9, 0, none⟩ : Addr).add j) = ([.slice l.g.A l.g.n l.g.cap, .int .i64 l.g.cyc, .int .i64 l.per, .int .i64 l.sh, .slice A n c] : List Value)[j]? := by
      intro j hj
      obtain ⟨u, hu⟩ : ∃ u, ([.slice l.g.A l.g.n l.g.cap, .int .i64 l.g.cyc, .int .i64 l.per, .int .i64 l.sh, .slice A n c] : List Value)[j]? = some u := ⟨_, List.getElem?_eq_getElem hj⟩
      rw [hu, add_mk, Nat.zero_add]
      exact hFa _ _ (hFb _ _ (hKFc j u hu))
    have hla : LnK Fa l := EntK.mono hl fun a u h => hFa _ _ (hFb _ _ (hFc _ _ h))
    have hPa : PK Fa A n hs0 := hP.mono fun a u h => hFa _ _ (hFb _ _ (hFc _ _ h))
    refine o1 rfl (det_loadKN tN107 rfl rfl h9) rfl rfl trivial ?_
    refine oF nofun rfl hb59 rfl rfl rfl trivial (fun w1 hs => (classes_ok hs.know).any) (fun v F2 hF2 hN2 ⟨q, hv, hq⟩ => ?_)
    subst hv
    refine o1 rfl (det_makeFunc rfl rfl) rfl rfl trivial ?_
    refine o1 rfl (det_call hb62 rfl rfl (fun w1 hs => least_ok hs.know (EntK.mono hla hF2) (hPa.mono hF2) hL hH ht hq (fun j hj => by have h0 := h3 j hj; obtain ⟨u, hu⟩ : ∃ u, (lnv l)[j]? = some u := ⟨_, List.getElem?_eq_getElem (by rw [lnv_len]; exact hj)⟩; rw [hu] at h0 ⊢; exact hF2 _ _ h0) (hF2 _ _ h5) (fun j hj => by have h0 := h9 j hj; obtain ⟨u, hu⟩ : ∃ u, ([.slice l.g.A l.g.n l.g.cap, .int .i64 l.g.cyc, .int .i64 l.per, .int .i64 l.sh, .slice A n c] : List Value)[j]? = some u := ⟨_, List.getElem?_eq_getElem hj⟩; rw [hu] at h0 ⊢; exact hF2 _ _ h0))) rfl rfl trivial ?_
    refine o1 rfl (det_extract rfl rfl) rfl rfl trivial ?_
    refine o1 rfl (det_extract rfl rfl) rfl rfl trivial ?_
    refine o1 rfl (det_assign rfl) rfl rfl trivial ?_
    refine o1 rfl (det_assign rfl) rfl rfl trivial ?_
    refine be rfl ?_
    refine k_then ?_
    refine t_ret ?_
    refine ret_tmp2 rfl rfl rfl rfl (fun w1 hs => ?_)
    first
    | exact ⟨by unfold whenA; rw [if_pos he], hs.keep⟩
    | exact ⟨by unfold whenA; rw [if_neg (by simp [he])], hs.keep⟩
end Go.Proofs.Cp

/-
  Walks through layers 36, 37 and 38 and their references.
-/
namespace Go.Proofs.Cp
open Go Go.Eng Go.Gt Go.Proofs.Gt Go.Sw Go.Qu Go.Ch
set_option maxRecDepth 4000
section
variable {c : Cx} {F : Know} {cp rest : Own} {w : World}
theorem satA (hs : Sat c F (cp ++ rest) w) : ∀ a v, F a = some v → a.block ∉ idsO cp := fun a v ha hm => hs.away a v ha (by rw [List.map_append]; exact List.mem_append_left _ hm)
theorem satN (hs : Sat c F (cp ++ rest) w) : (idsO cp).Nodup := by
  have h := hs.nodup
  rw [List.map_append, List.nodup_append] at h
  exact h.1
theorem satO (hs : Sat c F (cp ++ rest) w) : ∀ y ∈ cp, w.heap[y.1]? = some y.2 := fun y hy => hs.own y (List.mem_append_left _ hy)
end
theorem pexp_on {w : World} {F : Know} (hF : ∀ a v, F a = some v → w.cell? a = some v) {l : Ln} (hl : LnK F l) {A : Option Addr} {n c : Nat} {hs0 : List Pt} (hP : PK F A n hs0) (hL : okL l = true) (hH : okH hs0 = true) {q1 q2 : Nat} {e : Int} (he : -4000000000000 ≤ e ∧ e ≤ 4000000000000) (h1 : (∀ j, j < 5 → F ((⟨q1, 0, none⟩ : Addr).add j) = ([.slice l.g.A l.g.n l.g.cap, .int .i64 l.g.cyc, .int .i64 l.per, .int .i64 l.sh, .slice A n c] : List Value)[j]?)) {cl : Int} (hcl : 0 ≤ cl ∧ cl ≤ 7) (haway : ∀ a v, F a = some v → a.block ∉ idsO ([(q2, .cells [.int .i64 e].toArray 3 (0, 0))])) (hnd : (idsO ([(q2, .cells [.int .i64 e].toArray 3 (0, 0))])).Nodup) (hown : ∀ y ∈ ([(q2, .cells [.int .i64 e].toArray 3 (0, 0))] : Own), w.heap[y.1]? = some y.2) : CallsOn Try.prog 67 [.int .i64 cl, .pointer (some ⟨q1, 0, none⟩), .pointer (some ⟨q2, 0, none⟩)] w ([(q2, .cells [.int .i64 e].toArray 3 (0, 0))]) (fun v cp1 => v = .bool (mayC l hs0 cl e) ∧ cp1 = [(q2, .cells [.int .i64 e].toArray 3 (0, 0))]) := by
  have h8 := (okH_parts hH).1
  have hLp := okL_parts hL
  refine fn_on (F := F) Try.func67 rfl Try.ntmps67 rfl hF haway hnd hown ?_
  refine t_seq ?_
  refine b0 ?_
  refine o1 rfl (det_assign rfl) rfl rfl trivial ?_
  refine be rfl ?_
  refine k_then ?_
  refine t_seq ?_
  refine b0 ?_
  refine o1 rfl (det_loadKN tN107 rfl rfl h1) rfl rfl trivial ?_
  refine o1 rfl (det_move rfl) rfl rfl trivial ?_
  refine o1 rfl (det_call hb57 rfl rfl (fun w1 hs => waits_ok (l := l) hs.know hP h8 hcl)) rfl rfl trivial ?_
  refine o2P Iff.rfl rfl (det_move rfl) rfl rfl trivial (fun hb => ?_) (fun hb => ?_)
  ·
    refine o1 rfl (det_loadKN tN107 rfl rfl h1) rfl rfl ⟨_, rfl, rfl⟩ ?_
    refine o1 rfl (det_move rfl) rfl rfl ⟨_, rfl, rfl⟩ ?_
    refine o1 rfl (det_load1 t1_3 rfl rfl (.head _) rfl) rfl rfl ⟨_, rfl, rfl⟩ ?_
    refine o1 rfl (det_call hb58 rfl rfl (fun w1 hs => vfits_ok hs.know hl hP h8 hcl hLp.2.1 (okH_left hH hcl) hLp.2.2 he)) rfl rfl ⟨_, rfl, rfl⟩ ?_
    refine o1 rfl (det_pickT rfl rfl) rfl rfl trivial ?_
    refine o1 rfl (det_assign rfl) rfl rfl trivial ?_
    refine be rfl ?_
    refine k_then ?_
    refine t_ret ?_
    refine ret_tmp rfl rfl rfl (fun w1 hs => ?_)
    exact end_on (bs := []) hs rfl ⟨by unfold mayC; grind, rfl⟩
  ·
    refine on rfl rfl rfl ⟨_, rfl, .inl rfl⟩ ?_
    refine on rfl rfl rfl ⟨_, rfl, .inl rfl⟩ ?_
    refine on rfl rfl rfl ⟨_, rfl, .inl rfl⟩ ?_
    refine on rfl rfl rfl ⟨_, rfl, .inl rfl⟩ ?_
    refine o1 rfl (det_pickF rfl rfl) rfl rfl trivial ?_
    refine o1 rfl (det_assign rfl) rfl rfl trivial ?_
    refine be rfl ?_
    refine k_then ?_
    refine t_ret ?_
    refine ret_tmp rfl rfl rfl (fun w1 hs => ?_)
    exact end_on (bs := []) hs rfl ⟨by unfold mayC; grind, rfl⟩
theorem pre_ok {w : World} {F : Know} (hF : ∀ a v, F a = some v → w.cell? a = some v) {l : Ln} (hl : LnK F l) {A : Option Addr} {n c : Nat} {hs0 : List Pt} (hP : PK F A n hs0) (hnb : n ≤ 100000) {o b t : Int} : Pure Try.prog 28 [.agg (lnv l).toArray, .slice A n c, .int .i64 o, .int .i64 b, .int .i64 t] w (.tuple [.int .i64 (preA l hs0 o b t).1, .int .i64 (preA l hs0 o b t).2.1, .int .i64 (preA l hs0 o b t).2.2].toArray) := by
  refine fn_pure (F := F) Try.func28 rfl Try.ntmps28 rfl hF ?_
  refine t_seq ?_
  refine b0 ?_
  refine om1 rfl (new_boxN rfl) rfl rfl trivial (fun p5 => ?_)
  refine om1 rfl (new_alloc z3) rfl rfl trivial (fun p10 => ?_)
  refine o1 rfl (det_assign rfl) rfl rfl trivial ?_
  refine o1 rfl (det_assign rfl) rfl rfl trivial ?_
  refine be rfl ?_
  refine k_then ?_
  refine t_seq ?_
  refine t_seq ?_
  refine b0 ?_
  refine o1 rfl (det_loadN tN26 rfl rfl (.tail _ (.head _)) rfl) rfl rfl trivial ?_
  refine o1 rfl (det_move rfl) rfl rfl trivial ?_
  refine o1 rfl (det_move rfl) rfl rfl trivial ?_
  refine o1 rfl (det_call hb56 rfl rfl (fun w1 hs => cvalid_ok hs.know hl hP hnb)) rfl rfl trivial ?_
  refine o1 rfl (det_assign rfl) rfl rfl trivial ?_
  refine be rfl ?_
  refine k_then ?_
  refine t_seq ?_
  refine b0 ?_
  refine o1 rfl (det_move rfl) rfl rfl trivial ?_
  refine o1 rfl (det_neq rfl rfl) rfl rfl trivial ?_
  refine be rfl ?_
  refine k_then ?_
  refine t_condP bne_iff_ne rfl (fun hb => ?_) (fun hb => ?_)
  ·
    have he : errC l hs0 t ≠ 0 := hb
    refine t_seq ?_
    refine b0 ?_
    refine o1 rfl (det_move rfl) rfl rfl trivial ?_
    refine st1 nofun rfl t1_3 rfl rfl rfl .head rfl trivial rfl ?_
    refine o1 rfl (det_assign rfl) rfl rfl trivial ?_
    refine o1 rfl (det_assign rfl) rfl rfl trivial ?_
    refine be rfl ?_
    refine k_then ?_
    refine t_ret (k_thenR (?_))
    refine ret_any (vs := [_, _, _]) rfl rfl ⟨(.cell1 t1_3 rfl rfl (.head _) rfl), (.tmp rfl), (.tmp rfl), trivial⟩ rfl (fun w1 hs => ?_)
    first
    | exact ⟨by rw [show preA l hs0 o b t = (0, 0, errC l hs0 t) by unfold preA; rw [if_pos he]]; rfl, hs.keep⟩
    | exact ⟨by rw [show preA l hs0 o b t = (0, 0, 2) by unfold preA; rw [if_neg (by simp [he]), if_neg (by unfold argP; grind)]]; rfl, hs.keep⟩
    | exact ⟨by rw [show preA l hs0 o b t = (0, 0, 4) by unfold preA; rw [if_neg (by simp [he]), if_pos ha, if_neg (by unfold preB; grind)]]; rfl, hs.keep⟩
    | exact ⟨by rw [show preA l hs0 o b t = (preE l b t, preR l o b t, 0) by unfold preA; rw [if_neg (by simp [he]), if_pos ha, if_pos (by unfold preB; grind)]]; rfl, hs.keep⟩
  ·
    have he : errC l hs0 t = 0 := by simpa using hb
    obtain ⟨hL, hH, ht⟩ := errC_zero he
    have hLp := okL_parts hL
    have h8 := (okH_parts hH).1
    have hper := hLp.2.1
    refine t_skip ?_
    refine k_then ?_
    refine t_seq ?_
    refine t_seq ?_
    refine b0 ?_
    refine o1 rfl (det_move rfl) rfl rfl trivial ?_
    refine o1 rfl (det_lss rfl rfl) rfl rfl trivial ?_
    refine o2P decide_eq_true_iff rfl (det_move rfl) rfl rfl trivial (fun hb => ?_) (fun hb => ?_)
    ·
      refine on rfl rfl rfl ⟨_, rfl, .inl rfl⟩ ?_
      refine on rfl rfl rfl ⟨_, rfl, .inl rfl⟩ ?_
      refine o1 rfl (det_pickT rfl rfl) rfl rfl trivial ?_
      refine o1 rfl (det_move rfl) rfl rfl trivial ?_
      refine on rfl rfl rfl ⟨_, rfl, .inl rfl⟩ ?_
      refine on rfl rfl rfl ⟨_, rfl, .inl rfl⟩ ?_
      refine o1 rfl (det_pickT rfl rfl) rfl rfl trivial ?_
      refine o1 rfl (det_move rfl) rfl rfl trivial ?_
      refine on rfl rfl rfl ⟨_, rfl, .inl rfl⟩ ?_
      refine on rfl rfl rfl ⟨_, rfl, .inl rfl⟩ ?_
      refine on rfl rfl rfl ⟨_, rfl, .inl rfl⟩ ?_
      refine o1 rfl (det_pickT rfl rfl) rfl rfl trivial ?_
      refine o1 rfl (det_move rfl) rfl rfl trivial ?_
      refine on rfl rfl rfl ⟨_, rfl, .inl rfl⟩ ?_
      refine on rfl rfl rfl ⟨_, rfl, .inl rfl⟩ ?_
      refine on rfl rfl rfl ⟨_, rfl, .inl rfl⟩ ?_
      refine on rfl rfl rfl ⟨_, rfl, .inl rfl⟩ ?_
      refine on rfl rfl rfl ⟨_, rfl, .inl rfl⟩ ?_
      refine on rfl rfl rfl ⟨_, rfl, .inl rfl⟩ ?_
      refine on rfl rfl rfl ⟨_, rfl, .inl rfl⟩ ?_
      refine on rfl rfl rfl ⟨_, rfl, .inl rfl⟩ ?_
      refine o1 rfl (det_pickT rfl rfl) rfl rfl trivial ?_
      refine be rfl ?_
      refine k_then ?_
      refine t_condT rfl ?_
      refine t_seq ?_
      refine b0 ?_
      refine st1 nofun rfl t1_3 rfl rfl rfl .head rfl trivial rfl ?_
      refine o1 rfl (det_assign rfl) rfl rfl trivial ?_
      refine o1 rfl (det_assign rfl) rfl rfl trivial ?_
      refine be rfl ?_
      refine k_then ?_
      refine t_ret (k_thenR (?_))
      refine ret_any (vs := [_, _, _]) rfl rfl ⟨(.cell1 t1_3 rfl rfl (.head _) rfl), (.tmp rfl), (.tmp rfl), trivial⟩ rfl (fun w1 hs => ?_)
      first
      | exact ⟨by rw [show preA l hs0 o b t = (0, 0, errC l hs0 t) by unfold preA; rw [if_pos he]]; rfl, hs.keep⟩
      | exact ⟨by rw [show preA l hs0 o b t = (0, 0, 2) by unfold preA; rw [if_neg (by simp [he]), if_neg (by unfold argP; grind)]]; rfl, hs.keep⟩
      | exact ⟨by rw [show preA l hs0 o b t = (0, 0, 4) by unfold preA; rw [if_neg (by simp [he]), if_pos ha, if_neg (by unfold preB; grind)]]; rfl, hs.keep⟩
      | exact ⟨by rw [show preA l hs0 o b t = (preE l b t, preR l o b t, 0) by unfold preA; rw [if_neg (by simp [he]), if_pos ha, if_pos (by unfold preB; grind)]]; rfl, hs.keep⟩
    ·
      refine o1 rfl (det_move rfl) rfl rfl ⟨_, rfl, rfl⟩ ?_
      refine o1 rfl (det_gtr rfl rfl) rfl rfl ⟨_, rfl, rfl⟩ ?_
      refine o1 rfl (det_pickF rfl rfl) rfl rfl trivial ?_
      refine o2P decide_eq_true_iff rfl (det_move rfl) rfl rfl trivial (fun hb => ?_) (fun hb => ?_)
      ·
        refine on rfl rfl rfl ⟨_, rfl, .inl rfl⟩ ?_
        refine on rfl rfl rfl ⟨_, rfl, .inl rfl⟩ ?_
        refine o1 rfl (det_pickT rfl rfl) rfl rfl trivial ?_
        refine o1 rfl (det_move rfl) rfl rfl trivial ?_
        refine on rfl rfl rfl ⟨_, rfl, .inl rfl⟩ ?_
        refine on rfl rfl rfl ⟨_, rfl, .inl rfl⟩ ?_
        refine on rfl rfl rfl ⟨_, rfl, .inl rfl⟩ ?_
        refine o1 rfl (det_pickT rfl rfl) rfl rfl trivial ?_
        refine o1 rfl (det_move rfl) rfl rfl trivial ?_
        refine on rfl rfl rfl ⟨_, rfl, .inl rfl⟩ ?_
        refine on rfl rfl rfl ⟨_, rfl, .inl rfl⟩ ?_
        refine on rfl rfl rfl ⟨_, rfl, .inl rfl⟩ ?_
        refine on rfl rfl rfl ⟨_, rfl, .inl rfl⟩ ?_
        refine on rfl rfl rfl ⟨_, rfl, .inl rfl⟩ ?_
        refine on rfl rfl rfl ⟨_, rfl, .inl rfl⟩ ?_
        refine on rfl rfl rfl ⟨_, rfl, .inl rfl⟩ ?_
        refine on rfl rfl rfl ⟨_, rfl, .inl rfl⟩ ?_
        refine o1 rfl (det_pickT rfl rfl) rfl rfl trivial ?_
        refine be rfl ?_
        refine k_then ?_
        refine t_condT rfl ?_
        refine t_seq ?_
        refine b0 ?_
        refine st1 nofun rfl t1_3 rfl rfl rfl .head rfl trivial rfl ?_
        refine o1 rfl (det_assign rfl) rfl rfl trivial ?_
        refine o1 rfl (det_assign rfl) rfl rfl trivial ?_
        refine be rfl ?_
        refine k_then ?_
        refine t_ret (k_thenR (?_))
        refine ret_any (vs := [_, _, _]) rfl rfl ⟨(.cell1 t1_3 rfl rfl (.head _) rfl), (.tmp rfl), (.tmp rfl), trivial⟩ rfl (fun w1 hs => ?_)
        first
        | exact ⟨by rw [show preA l hs0 o b t = (0, 0, errC l hs0 t) by unfold preA; rw [if_pos he]]; rfl, hs.keep⟩
        | exact ⟨by rw [show preA l hs0 o b t = (0, 0, 2) by unfold preA; rw [if_neg (by simp [he]), if_neg (by unfold argP; grind)]]; rfl, hs.keep⟩
        | exact ⟨by rw [show preA l hs0 o b t = (0, 0, 4) by unfold preA; rw [if_neg (by simp [he]), if_pos ha, if_neg (by unfold preB; grind)]]; rfl, hs.keep⟩
        | exact ⟨by rw [show preA l hs0 o b t = (preE l b t, preR l o b t, 0) by unfold preA; rw [if_neg (by simp [he]), if_pos ha, if_pos (by unfold preB; grind)]]; rfl, hs.keep⟩
      ·
        refine o1 rfl (det_move rfl) rfl rfl ⟨_, rfl, rfl⟩ ?_
        refine o1 rfl (det_lss rfl rfl) rfl rfl ⟨_, rfl, rfl⟩ ?_
        refine o1 rfl (det_pickF rfl rfl) rfl rfl trivial ?_
        refine o2P decide_eq_true_iff rfl (det_move rfl) rfl rfl trivial (fun hb => ?_) (fun hb => ?_)
        ·
          refine on rfl rfl rfl ⟨_, rfl, .inl rfl⟩ ?_
          refine on rfl rfl rfl ⟨_, rfl, .inl rfl⟩ ?_
          refine on rfl rfl rfl ⟨_, rfl, .inl rfl⟩ ?_
          refine o1 rfl (det_pickT rfl rfl) rfl rfl trivial ?_
          refine o1 rfl (det_move rfl) rfl rfl trivial ?_
          refine on rfl rfl rfl ⟨_, rfl, .inl rfl⟩ ?_
          refine on rfl rfl rfl ⟨_, rfl, .inl rfl⟩ ?_
          refine on rfl rfl rfl ⟨_, rfl, .inl rfl⟩ ?_
          refine on rfl rfl rfl ⟨_, rfl, .inl rfl⟩ ?_
          refine on rfl rfl rfl ⟨_, rfl, .inl rfl⟩ ?_
          refine on rfl rfl rfl ⟨_, rfl, .inl rfl⟩ ?_
          refine on rfl rfl rfl ⟨_, rfl, .inl rfl⟩ ?_
          refine on rfl rfl rfl ⟨_, rfl, .inl rfl⟩ ?_
          refine o1 rfl (det_pickT rfl rfl) rfl rfl trivial ?_
          refine be rfl ?_
          refine k_then ?_
          refine t_condT rfl ?_
          refine t_seq ?_
          refine b0 ?_
          refine st1 nofun rfl t1_3 rfl rfl rfl .head rfl trivial rfl ?_
          refine o1 rfl (det_assign rfl) rfl rfl trivial ?_
          refine o1 rfl (det_assign rfl) rfl rfl trivial ?_
          refine be rfl ?_
          refine k_then ?_
          refine t_ret (k_thenR (?_))
          refine ret_any (vs := [_, _, _]) rfl rfl ⟨(.cell1 t1_3 rfl rfl (.head _) rfl), (.tmp rfl), (.tmp rfl), trivial⟩ rfl (fun w1 hs => ?_)
          first
          | exact ⟨by rw [show preA l hs0 o b t = (0, 0, errC l hs0 t) by unfold preA; rw [if_pos he]]; rfl, hs.keep⟩
          | exact ⟨by rw [show preA l hs0 o b t = (0, 0, 2) by unfold preA; rw [if_neg (by simp [he]), if_neg (by unfold argP; grind)]]; rfl, hs.keep⟩
          | exact ⟨by rw [show preA l hs0 o b t = (0, 0, 4) by unfold preA; rw [if_neg (by simp [he]), if_pos ha, if_neg (by unfold preB; grind)]]; rfl, hs.keep⟩
          | exact ⟨by rw [show preA l hs0 o b t = (preE l b t, preR l o b t, 0) by unfold preA; rw [if_neg (by simp [he]), if_pos ha, if_pos (by unfold preB; grind)]]; rfl, hs.keep⟩
        ·
          refine o1 rfl (det_move rfl) rfl rfl ⟨_, rfl, rfl⟩ ?_
          refine o1 rfl (det_move rfl) rfl rfl ⟨_, rfl, rfl⟩ ?_
          refine o1 rfl (det_gtr rfl rfl) rfl rfl ⟨_, rfl, rfl⟩ ?_
          refine o1 rfl (det_pickF rfl rfl) rfl rfl trivial ?_
          refine o2P decide_eq_true_iff rfl (det_move rfl) rfl rfl trivial (fun hb => ?_) (fun hb => ?_)
          ·
            refine on rfl rfl rfl ⟨_, rfl, .inl rfl⟩ ?_
            refine on rfl rfl rfl ⟨_, rfl, .inl rfl⟩ ?_
            refine on rfl rfl rfl ⟨_, rfl, .inl rfl⟩ ?_
            refine on rfl rfl rfl ⟨_, rfl, .inl rfl⟩ ?_
            refine on rfl rfl rfl ⟨_, rfl, .inl rfl⟩ ?_
            refine on rfl rfl rfl ⟨_, rfl, .inl rfl⟩ ?_
            refine on rfl rfl rfl ⟨_, rfl, .inl rfl⟩ ?_
            refine on rfl rfl rfl ⟨_, rfl, .inl rfl⟩ ?_
            refine o1 rfl (det_pickT rfl rfl) rfl rfl trivial ?_
            refine be rfl ?_
            refine k_then ?_
            refine t_condT rfl ?_
            refine t_seq ?_
            refine b0 ?_
            refine st1 nofun rfl t1_3 rfl rfl rfl .head rfl trivial rfl ?_
            refine o1 rfl (det_assign rfl) rfl rfl trivial ?_
            refine o1 rfl (det_assign rfl) rfl rfl trivial ?_
            refine be rfl ?_
            refine k_then ?_
            refine t_ret (k_thenR (?_))
            refine ret_any (vs := [_, _, _]) rfl rfl ⟨(.cell1 t1_3 rfl rfl (.head _) rfl), (.tmp rfl), (.tmp rfl), trivial⟩ rfl (fun w1 hs => ?_)
            first
            | exact ⟨by rw [show preA l hs0 o b t = (0, 0, errC l hs0 t) by unfold preA; rw [if_pos he]]; rfl, hs.keep⟩
            | exact ⟨by rw [show preA l hs0 o b t = (0, 0, 2) by unfold preA; rw [if_neg (by simp [he]), if_neg (by unfold argP; grind)]]; rfl, hs.keep⟩
            | exact ⟨by rw [show preA l hs0 o b t = (0, 0, 4) by unfold preA; rw [if_neg (by simp [he]), if_pos ha, if_neg (by unfold preB; grind)]]; rfl, hs.keep⟩
            | exact ⟨by rw [show preA l hs0 o b t = (preE l b t, preR l o b t, 0) by unfold preA; rw [if_neg (by simp [he]), if_pos ha, if_pos (by unfold preB; grind)]]; rfl, hs.keep⟩
          ·
            refine o1 rfl (det_move rfl) rfl rfl ⟨_, rfl, rfl⟩ ?_
            refine o1 rfl (det_move rfl) rfl rfl ⟨_, rfl, rfl⟩ ?_
            refine o1 rfl (det_move rfl) rfl rfl ⟨_, rfl, rfl⟩ ?_
            refine o1 rfl (det_fieldAddr fld26_1 rfl) rfl rfl ⟨_, rfl, rfl⟩ ?_
            refine o1 rfl (det_load1 t1_3 rfl rfl (.tail _ (.head _)) rfl) rfl rfl ⟨_, rfl, rfl⟩ ?_
            have ho : 0 ≤ o * l.per ∧ o * l.per ≤ 1542 * 1000 := ⟨Int.mul_nonneg (by omega) (by omega), Int.mul_le_mul (by omega) hper.2 (by omega) (by decide)⟩
            first | (refine o1 rfl (det_mulI rfl rfl ?_) rfl rfl ⟨_, rfl, rfl⟩ ?_; (· omega)) | refine o1 rfl (det_mul rfl rfl) rfl rfl ⟨_, rfl, rfl⟩ ?_
            first | (refine o1 rfl (det_addI rfl rfl ?_) rfl rfl ⟨_, rfl, rfl⟩ ?_; (· omega)) | refine o1 rfl (det_add rfl rfl) rfl rfl ⟨_, rfl, rfl⟩ ?_
            refine o1 rfl (det_gtr rfl rfl) rfl rfl ⟨_, rfl, rfl⟩ ?_
            refine o1 rfl (det_pickF rfl rfl) rfl rfl trivial ?_
            refine be rfl ?_
            refine k_then ?_
            refine t_condP decide_eq_true_iff rfl (fun hb => ?_) (fun hb => ?_)
            ·
              have ha : argP l o b t = false := by unfold argP; grind
              refine t_seq ?_
              refine b0 ?_
              refine st1 nofun rfl t1_3 rfl rfl rfl .head rfl trivial rfl ?_
              refine o1 rfl (det_assign rfl) rfl rfl trivial ?_
              refine o1 rfl (det_assign rfl) rfl rfl trivial ?_
              refine be rfl ?_
              refine k_then ?_
              refine t_ret (k_thenR (?_))
              refine ret_any (vs := [_, _, _]) rfl rfl ⟨(.cell1 t1_3 rfl rfl (.head _) rfl), (.tmp rfl), (.tmp rfl), trivial⟩ rfl (fun w1 hs => ?_)
              first
              | exact ⟨by rw [show preA l hs0 o b t = (0, 0, errC l hs0 t) by unfold preA; rw [if_pos he]]; rfl, hs.keep⟩
              | exact ⟨by rw [show preA l hs0 o b t = (0, 0, 2) by unfold preA; rw [if_neg (by simp [he]), if_neg (by unfold argP; grind)]]; rfl, hs.keep⟩
              | exact ⟨by rw [show preA l hs0 o b t = (0, 0, 4) by unfold preA; rw [if_neg (by simp [he]), if_pos ha, if_neg (by unfold preB; grind)]]; rfl, hs.keep⟩
              | exact ⟨by rw [show preA l hs0 o b t = (preE l b t, preR l o b t, 0) by unfold preA; rw [if_neg (by simp [he]), if_pos ha, if_pos (by unfold preB; grind)]]; rfl, hs.keep⟩
            ·
              have ha : argP l o b t = true := by unfold argP; grind
              have hab : (84 ≤ o ∧ o ≤ 1542) ∧ 0 ≤ b ∧ b ≤ t ∧ t ≤ b + o * l.per := by unfold argP at ha; simp at ha; exact ⟨⟨ha.1, ha.2.1⟩, ha.2.2⟩
              have hcd := ceil_bd (x := t - b) (o := o) (p := l.per) hper.1 (by omega) (by omega)
              have hKd : preK l b t = max 64 ((t - b + l.per - 1) / l.per) := rfl
              have hKb : 64 ≤ preK l b t ∧ preK l b t ≤ 1542 := by rw [hKd]; omega
              have hmk : 0 ≤ (preK l b t + 24) * l.per ∧ (preK l b t + 24) * l.per ≤ 1566 * 1000 := ⟨Int.mul_nonneg (by omega) (by omega), Int.mul_le_mul (by omega) hper.2 (by omega) (by decide)⟩
              have hmk2 := hmk
              rw [hKd] at hmk2
              have hebd : -4000000000000 ≤ preE l b t ∧ preE l b t ≤ 4000000000000 := by unfold preE; omega
              refine t_skip ?_
              refine k_then ?_
              refine t_seq ?_
              refine b0 ?_
              refine o1 rfl (det_loadN tN26 rfl rfl (.tail _ (.head _)) rfl) rfl rfl trivial ?_
              refine o1 rfl (det_move rfl) rfl rfl trivial ?_
              refine o1 rfl (det_build rfl (fun w => bld107_0_1 _ _ _ _ _ _ _ _ _ w)) rfl rfl trivial ?_
              refine om1 rfl (new_alloc z107) rfl rfl trivial (fun p14 => ?_)
              refine stN nofun rfl tN107 rfl rfl rfl .head rfl trivial rfl rfl ?_
              refine be rfl ?_
              refine k_then ?_
              refine t_seq ?_
              refine b0 ?_
              refine o1 rfl (det_move rfl) rfl rfl trivial ?_
              refine o1 rfl (det_move rfl) rfl rfl trivial ?_
              first | (refine o1 rfl (det_subI rfl rfl ?_) rfl rfl trivial ?_; (· omega)) | refine o1 rfl (det_sub rfl rfl) rfl rfl trivial ?_
              refine o1 rfl (det_fieldAddr fld26_1 rfl) rfl rfl trivial ?_
              refine o1 rfl (det_load1 t1_3 rfl rfl (.tail _ (.tail _ (.head _))) rfl) rfl rfl trivial ?_
              first | (refine o1 rfl (det_addI rfl rfl ?_) rfl rfl trivial ?_; (· omega)) | refine o1 rfl (det_add rfl rfl) rfl rfl trivial ?_
              first | (refine o1 rfl (det_subI rfl rfl ?_) rfl rfl trivial ?_; (· omega)) | refine o1 rfl (det_sub rfl rfl) rfl rfl trivial ?_
              refine o1 rfl (det_fieldAddr fld26_1 rfl) rfl rfl trivial ?_
              refine o1 rfl (det_load1 t1_3 rfl rfl (.tail _ (.tail _ (.head _))) rfl) rfl rfl trivial ?_
              first | (refine o1 rfl (det_quoP rfl rfl ?_ ?_) rfl rfl trivial ?_; (· omega); (· omega)) | (refine o1 rfl (det_quoI rfl rfl ?_ ?_) rfl rfl trivial ?_; (· (first | decide | omega)); (· omega)) | (refine o1 rfl (det_quo rfl rfl ?_) rfl rfl trivial ?_; (· (first | decide | omega)))
              refine o1 rfl (det_max2 rfl rfl) rfl rfl trivial ?_
              refine o1 rfl (det_assign rfl) rfl rfl trivial ?_
              refine be rfl ?_
              refine k_then ?_
              refine t_seq ?_
              refine b0 ?_
              refine o1 rfl (det_move rfl) rfl rfl trivial ?_
              refine o1 rfl (det_move rfl) rfl rfl trivial ?_
              first | (refine o1 rfl (det_addI rfl rfl ?_) rfl rfl trivial ?_; (· omega)) | refine o1 rfl (det_add rfl rfl) rfl rfl trivial ?_
              refine o1 rfl (det_fieldAddr fld26_1 rfl) rfl rfl trivial ?_
              refine o1 rfl (det_load1 t1_3 rfl rfl (.tail _ (.tail _ (.head _))) rfl) rfl rfl trivial ?_
              first | (refine o1 rfl (det_mulI rfl rfl ?_) rfl rfl trivial ?_; (· omega)) | refine o1 rfl (det_mul rfl rfl) rfl rfl trivial ?_
              first | (refine o1 rfl (det_addI rfl rfl ?_) rfl rfl trivial ?_; (· omega)) | refine o1 rfl (det_add rfl rfl) rfl rfl trivial ?_
              refine o1 rfl (det_move rfl) rfl rfl trivial ?_
              refine o1 rfl (det_move rfl) rfl rfl trivial ?_
              first | (refine o1 rfl (det_subI rfl rfl ?_) rfl rfl trivial ?_; (· omega)) | refine o1 rfl (det_sub rfl rfl) rfl rfl trivial ?_
              first | (refine o1 rfl (det_addI rfl rfl ?_) rfl rfl trivial ?_; (· omega)) | refine o1 rfl (det_add rfl rfl) rfl rfl trivial ?_
              refine st1 nofun rfl t1_3 rfl rfl rfl (.tail .head) rfl trivial rfl ?_
              refine o1 rfl (det_assign rfl) rfl rfl trivial ?_
              refine be rfl ?_
              refine k_then ?_
              refine t_seq ?_
              refine b0 ?_
              refine o1 rfl (det_makeFunc rfl rfl) rfl rfl trivial ?_
              refine o1 rfl (det_assign rfl) rfl rfl trivial ?_
              refine be rfl ?_
              refine k_then ?_
              refine t_seq ?_
              refine t_seq ?_
              refine b0 ?_
              refine tk_freeze (pre := []) rfl (fun Fa hFa hNFa hKFa => ?_)
              have h9 : ∀ j, j < 5 → Fa ((⟨p14, 0, none⟩ : Addr).add j) = ([.slice l.g.A l.g.n l.g.cap, .int .i64 l.g.cyc, .int .i64 l.per, .int .i64 l.sh, .slice A n c] : List Value)[j]? := by
                intro j hj
                obtain ⟨u, hu⟩ : ∃ u, ([.slice l.g.A l.g.n l.g.cap, .int .i64 l.g.cyc, .int .i64 l.per, .int .i64 l.sh, .slice A n c] : List Value)[j]? = some u := ⟨_, List.getElem?_eq_getElem hj⟩
                rw [hu, add_mk, Nat.zero_add]
                exact hKFa j u hu
              have hla : LnK Fa l := EntK.mono hl hFa
              have hPa : PK Fa A n hs0 := hP.mono hFa
              refine o1 rfl (det_move rfl) rfl rfl trivial ?_
              refine o1 rfl (det_move rfl) rfl rfl trivial ?_
              first | (refine o1 rfl (det_subI rfl rfl ?_) rfl rfl trivial ?_; (· omega)) | refine o1 rfl (det_sub rfl rfl) rfl rfl trivial ?_
              refine o1 rfl (det_lss rfl rfl) rfl rfl trivial ?_
              refine o2P decide_eq_true_iff rfl (det_move rfl) rfl rfl trivial (fun hb => ?_) (fun hb => ?_)
              ·
                refine on rfl rfl rfl ⟨_, rfl, .inl rfl⟩ ?_
                refine on rfl rfl rfl ⟨_, rfl, .inl rfl⟩ ?_
                refine on rfl rfl rfl ⟨_, rfl, .inl rfl⟩ ?_
                refine on rfl rfl rfl ⟨_, rfl, .inl rfl⟩ ?_
                refine on rfl rfl rfl ⟨_, rfl, .inr rfl⟩ ?_
                refine on rfl rfl rfl ⟨_, rfl, .inr rfl⟩ ?_
                refine on rfl rfl rfl ⟨_, rfl, .inr rfl⟩ ?_
                refine on rfl rfl rfl ⟨_, rfl, .inl rfl⟩ ?_
                refine o1 rfl (det_pickT rfl rfl) rfl rfl trivial ?_
                refine be rfl ?_
                refine k_then ?_
                refine t_condT rfl ?_
                refine t_seq ?_
                refine b0 ?_
                refine st1 nofun rfl t1_3 rfl rfl rfl .head rfl trivial rfl ?_
                refine o1 rfl (det_assign rfl) rfl rfl trivial ?_
                refine o1 rfl (det_assign rfl) rfl rfl trivial ?_
                refine be rfl ?_
                refine k_then ?_
                refine t_ret (k_thenR (?_))
                refine ret_any (vs := [_, _, _]) rfl rfl ⟨(.cell1 t1_3 rfl rfl (.head _) rfl), (.tmp rfl), (.tmp rfl), trivial⟩ rfl (fun w1 hs => ?_)
                first
                | exact ⟨by rw [show preA l hs0 o b t = (0, 0, errC l hs0 t) by unfold preA; rw [if_pos he]]; rfl, hs.keep⟩
                | exact ⟨by rw [show preA l hs0 o b t = (0, 0, 2) by unfold preA; rw [if_neg (by simp [he]), if_neg (by unfold argP; grind)]]; rfl, hs.keep⟩
                | exact ⟨by rw [show preA l hs0 o b t = (0, 0, 4) by unfold preA; rw [if_neg (by simp [he]), if_pos ha, if_neg (by unfold preB; grind)]]; rfl, hs.keep⟩
                | exact ⟨by rw [show preA l hs0 o b t = (preE l b t, preR l o b t, 0) by unfold preA; rw [if_neg (by simp [he]), if_pos ha, if_pos (by unfold preB; grind)]]; rfl, hs.keep⟩
              ·
                refine o1 rfl (det_move rfl) rfl rfl ⟨_, rfl, rfl⟩ ?_
                refine oOn (cp := [_]) (rest := _) nofun rfl hb67 rfl rfl rfl ⟨_, rfl, rfl⟩ (fun w1 hs => (pexp_on (cl := 6) hs.know hla hPa hL hH hebd h9 (by decide) (satA hs) (satN hs) (satO hs))) (fun v cp1 hv hi1 => ?_)
                obtain ⟨rfl, rfl⟩ := hv
                refine o1 rfl (det_not rfl) rfl rfl ⟨_, rfl, rfl⟩ ?_
                refine o2P not_iff_false rfl (det_move rfl) rfl rfl ⟨_, rfl, rfl⟩ (fun hb => ?_) (fun hb => ?_)
                ·
                  refine o1 rfl (det_move rfl) rfl rfl ⟨_, rfl, rfl⟩ ?_
                  refine oOn (cp := [_]) (rest := _) nofun rfl hb67 rfl rfl rfl ⟨_, rfl, rfl⟩ (fun w1 hs => (pexp_on (cl := 7) hs.know hla hPa hL hH hebd h9 (by decide) (satA hs) (satN hs) (satO hs))) (fun v cp1 hv hi1 => ?_)
                  obtain ⟨rfl, rfl⟩ := hv
                  refine o1 rfl (det_not rfl) rfl rfl ⟨_, rfl, rfl⟩ ?_
                  refine o1 rfl (det_pickT rfl rfl) rfl rfl ⟨_, rfl, rfl⟩ ?_
                  refine o1 rfl (det_pickF rfl rfl) rfl rfl trivial ?_
                  refine be rfl ?_
                  refine k_then ?_
                  refine t_condP not_iff_false rfl (fun hb => ?_) (fun hb => ?_)
                  ·
                    refine t_seq ?_
                    refine b0 ?_
                    refine st1 nofun rfl t1_3 rfl rfl rfl .head rfl trivial rfl ?_
                    refine o1 rfl (det_assign rfl) rfl rfl trivial ?_
                    refine o1 rfl (det_assign rfl) rfl rfl trivial ?_
                    refine be rfl ?_
                    refine k_then ?_
                    refine t_ret (k_thenR (?_))
                    refine ret_any (vs := [_, _, _]) rfl rfl ⟨(.cell1 t1_3 rfl rfl (.head _) rfl), (.tmp rfl), (.tmp rfl), trivial⟩ rfl (fun w1 hs => ?_)
                    first
                    | exact ⟨by rw [show preA l hs0 o b t = (0, 0, errC l hs0 t) by unfold preA; rw [if_pos he]]; rfl, hs.keep⟩
                    | exact ⟨by rw [show preA l hs0 o b t = (0, 0, 2) by unfold preA; rw [if_neg (by simp [he]), if_neg (by unfold argP; grind)]]; rfl, hs.keep⟩
                    | exact ⟨by rw [show preA l hs0 o b t = (0, 0, 4) by unfold preA; rw [if_neg (by simp [he]), if_pos ha, if_neg (by unfold preB; grind)]]; rfl, hs.keep⟩
                    | exact ⟨by rw [show preA l hs0 o b t = (preE l b t, preR l o b t, 0) by unfold preA; rw [if_neg (by simp [he]), if_pos ha, if_pos (by unfold preB; grind)]]; rfl, hs.keep⟩
                  ·
                    refine t_skip ?_
                    refine k_then ?_
                    refine t_seq ?_
                    refine b0 ?_
                    refine o1 rfl (det_load1 t1_3 rfl rfl (.head _) rfl) rfl rfl trivial ?_
                    refine o1 rfl (det_move rfl) rfl rfl trivial ?_
                    refine st1 nofun rfl t1_3 rfl rfl rfl .head rfl trivial rfl ?_
                    refine o1 rfl (det_assign rfl) rfl rfl trivial ?_
                    refine o1 rfl (det_assign rfl) rfl rfl trivial ?_
                    refine be rfl ?_
                    refine k_then ?_
                    refine t_ret ?_
                    refine ret_any (vs := [_, _, _]) rfl rfl ⟨(.cell1 t1_3 rfl rfl (.head _) rfl), (.tmp rfl), (.tmp rfl), trivial⟩ rfl (fun w1 hs => ?_)
                    first
                    | exact ⟨by rw [show preA l hs0 o b t = (0, 0, errC l hs0 t) by unfold preA; rw [if_pos he]]; rfl, hs.keep⟩
                    | exact ⟨by rw [show preA l hs0 o b t = (0, 0, 2) by unfold preA; rw [if_neg (by simp [he]), if_neg (by unfold argP; grind)]]; rfl, hs.keep⟩
                    | exact ⟨by rw [show preA l hs0 o b t = (0, 0, 4) by unfold preA; rw [if_neg (by simp [he]), if_pos ha, if_neg (by unfold preB; grind)]]; rfl, hs.keep⟩
                    | exact ⟨by rw [show preA l hs0 o b t = (preE l b t, preR l o b t, 0) by unfold preA; rw [if_neg (by simp [he]), if_pos ha, if_pos (by unfold preB; grind)]]; rfl, hs.keep⟩
                ·
                  refine on rfl rfl rfl ⟨_, rfl, .inl rfl⟩ ?_
                  refine on rfl rfl rfl ⟨_, rfl, .inl rfl⟩ ?_
                  refine on rfl rfl rfl ⟨_, rfl, .inl rfl⟩ ?_
                  refine o1 rfl (det_pickF rfl rfl) rfl rfl ⟨_, rfl, rfl⟩ ?_
                  refine o1 rfl (det_pickF rfl rfl) rfl rfl trivial ?_
                  refine be rfl ?_
                  refine k_then ?_
                  refine t_condF rfl ?_
                  refine t_skip ?_
                  refine k_then ?_
                  refine t_seq ?_
                  refine b0 ?_
                  refine o1 rfl (det_load1 t1_3 rfl rfl (.head _) rfl) rfl rfl trivial ?_
                  refine o1 rfl (det_move rfl) rfl rfl trivial ?_
                  refine st1 nofun rfl t1_3 rfl rfl rfl .head rfl trivial rfl ?_
                  refine o1 rfl (det_assign rfl) rfl rfl trivial ?_
                  refine o1 rfl (det_assign rfl) rfl rfl trivial ?_
                  refine be rfl ?_
                  refine k_then ?_
                  refine t_ret ?_
                  refine ret_any (vs := [_, _, _]) rfl rfl ⟨(.cell1 t1_3 rfl rfl (.head _) rfl), (.tmp rfl), (.tmp rfl), trivial⟩ rfl (fun w1 hs => ?_)
                  first
                  | exact ⟨by rw [show preA l hs0 o b t = (0, 0, errC l hs0 t) by unfold preA; rw [if_pos he]]; rfl, hs.keep⟩
                  | exact ⟨by rw [show preA l hs0 o b t = (0, 0, 2) by unfold preA; rw [if_neg (by simp [he]), if_neg (by unfold argP; grind)]]; rfl, hs.keep⟩
                  | exact ⟨by rw [show preA l hs0 o b t = (0, 0, 4) by unfold preA; rw [if_neg (by simp [he]), if_pos ha, if_neg (by unfold preB; grind)]]; rfl, hs.keep⟩
                  | exact ⟨by rw [show preA l hs0 o b t = (preE l b t, preR l o b t, 0) by unfold preA; rw [if_neg (by simp [he]), if_pos ha, if_pos (by unfold preB; grind)]]; rfl, hs.keep⟩
set_option maxHeartbeats 1000000
end Go.Proofs.Cp

/-
  Walks through layers 36, 37 and 38 and their references.
-/
namespace Go.Proofs.Cp
open Go Go.Eng Go.Qu
set_option maxRecDepth 4000
theorem parts_ok {w : World} {F : Know} (hF : ∀ a v, F a = some v → w.cell? a = some v) {A : Option Addr} {n c : Nat} {cap : Int} : CallsF Try.prog 114 [.agg [.int .i64 cap, .slice A n c].toArray] w noK (fun v F2 => ∃ p, v = .func (.func 120) [].toArray [.pointer (some ⟨p, 0, none⟩)].toArray ∧ F2 ⟨p, 0, none⟩ = some (.int .i64 cap) ∧ F2 ⟨p, 1, none⟩ = some (.slice A n c)) := by
  refine fn_fresh (F := F) Try.func114 rfl Try.ntmps114 rfl hF ?_
  refine t_seq ?_
  refine b0 ?_
  refine om1 rfl (new_boxN rfl) rfl rfl trivial (fun p1 => ?_)
  refine o1 rfl (det_assign rfl) rfl rfl trivial ?_
  refine be rfl ?_
  refine k_then ?_
  refine t_seq ?_
  refine b0 ?_
  refine o1 rfl (det_makeFunc rfl rfl) rfl rfl trivial ?_
  refine o1 rfl (det_assign rfl) rfl rfl trivial ?_
  refine be rfl ?_
  refine k_then ?_
  refine t_ret ?_
  refine ret_tmp rfl rfl rfl (fun w1 hs => ?_)
  exact end_fresh hs fun F2 _ _ h => ⟨p1, rfl, h p1 _ _ _ 0 (.head _) _ rfl, h p1 _ _ _ 1 (.head _) _ rfl⟩
theorem parts_gives {F : Know} {A : Option Addr} {n c : Nat} {ps : List Pt} (hP : PK F A n ps) (hnb : n ≤ 65536) {p : Nat} (h0 : F ⟨p, 1, none⟩ = some (.slice A n c)) : Gives Try.prog 120 [.pointer (some ⟨p, 0, none⟩)] F (yldP ps) := by
  refine fn_gives Try.func120 rfl Try.ntmps120 rfl fun l J Jx w hR hJ => ?_
  refine t_seq ?_
  refine b0 ?_
  refine o1 rfl (det_fieldAddr fld151_0 rfl) rfl rfl trivial ?_
  refine o1 rfl (det_fieldAddr fld73_1 rfl) rfl rfl trivial ?_
  refine o1 rfl (det_loadK t1_27 rfl (by simpa [add_mk] using h0)) rfl rfl trivial ?_
  refine o1 rfl (det_lenS sl27 rfl) rfl rfl trivial ?_
  refine o1 rfl (det_move rfl) rfl rfl trivial ?_
  refine be rfl ?_
  refine k_then ?_
  refine t_block ?_
  refine t_whileG (σ := Nat) (fun s => [(9, .int .i64 s)]) (fun s => ps.length - s) (fun s => fun w1 => s ≤ ps.length ∧ J s w1) 0 (env0 := [(0, _), (7, _), (8, _)]) ⟨Nat.zero_le _, hJ⟩ ⟨rfl, trivial⟩ ⟨rfl, rfl, rfl, trivial⟩ ?_
  rintro s w1 ⟨hsl, hJ⟩
  have hnl := hP.len
  refine t_seq ?_
  refine b0 ?_
  refine o1 rfl (det_lss rfl rfl) rfl rfl trivial ?_
  refine be rfl ?_
  refine k_then ?_
  refine t_seq ?_
  refine t_condP decide_eq_true_iff rfl (fun hb => ?_) (fun hb => ?_)
  ·
    have hlt : s < ps.length := by omega
    obtain ⟨A, rfl⟩ := hP.some hlt
    refine t_skip ?_
    refine k_then ?_
    refine t_seq ?_
    refine t_block ?_
    refine t_seq ?_
    refine b0 ?_
    refine o1 rfl (det_move rfl) rfl rfl trivial ?_
    first | (refine o1 rfl (det_indexAddr sl27 rfl rfl ?_) rfl rfl trivial ?_; (· (first | decide | omega)))
    refine o1 rfl (det_loadKN tN57 rfl (ptv_len ps[s]) (hP.cells (i := (s : Int)) (k := s) (Int.toNat_natCast s) hlt (ptv_len _))) rfl rfl trivial ?_
    refine om1 rfl (new_alloc z57) rfl rfl trivial (fun p4 => ?_)
    refine o1 rfl (det_assign rfl) rfl rfl trivial ?_
    refine stN nofun rfl tN57 rfl rfl rfl .head rfl trivial rfl rfl ?_
    refine be rfl ?_
    refine k_then ?_
    refine t_seq ?_
    refine b0 ?_
    refine o1 rfl (det_move rfl) rfl rfl trivial ?_
    refine o1 rfl (det_move rfl) rfl rfl trivial ?_
    refine o1 rfl (det_loadN tN57 rfl rfl (.head _) rfl) rfl rfl trivial ?_
    refine oY hR hJ (by rw [yldP_len]; exact hlt) nofun rfl rfl rfl rfl trivial (by rw [yldP_get (by rw [yldP_len]; exact hlt), atP_get hlt]; rfl) (fun w1 hJ => ?_) (fun w1 hX => ?_)
    ·
      refine o1 rfl (det_not rfl) rfl rfl trivial ?_
      refine be rfl ?_
      refine k_then ?_
      refine t_condF rfl ?_
      refine t_skip ?_
      refine k_blk ?_
      refine k_then ?_
      refine b0 ?_
      first | (refine o1 rfl (det_addI rfl rfl ?_) rfl rfl trivial ?_; (· omega)) | refine o1 rfl (det_add rfl rfl) rfl rfl trivial ?_
      refine o1 rfl (det_move rfl) rfl rfl trivial ?_
      refine be rfl ?_
      refine k_then ?_
      refine loop_backG (s + 1) ⟨by omega, hJ⟩ (by omega) ⟨rfl, rfl, rfl, rfl, trivial⟩
    ·
      refine o1 rfl (det_not rfl) rfl rfl trivial ?_
      refine be rfl ?_
      refine k_then ?_
      refine t_condT rfl ?_
      refine t_ret (k_blkR (k_thenR (k_thenR (k_blkR (?_)))))
      refine ret_any (vs := []) rfl rfl trivial rfl (fun w1 hs => ?_)
      exact ⟨_, rfl, .inr (hR.stx _ _ hX hs.keep)⟩
  ·
    have hse : s = ps.length := by omega
    subst hse
    refine t_exit ?_
    refine k_thenE ?_
    refine k_thenE ?_
    refine k_blkE ?_
    refine end_none rfl rfl (fun w1 hs => ?_)
    exact ⟨_, rfl, .inl (hR.st _ _ _ (by rw [yldP_len]; exact hJ) hs.keep)⟩
theorem oct1_ok {w : World} {F : Know} (hF : ∀ a v, F a = some v → w.cell? a = some v) {p : Pt} : Pure Try.prog 116 [.agg [.int .i64 p.it.st, .int .i64 p.it.sq, .int .i64 p.it.cl, .int .i64 p.it.sz, .int .i64 p.it.sn, .int .i64 p.left, .bool p.rest].toArray] w (.int .i64 p.left) := by
  refine fn_pure (F := F) Try.func116 rfl Try.ntmps116 rfl hF ?_
  refine t_seq ?_
  refine b0 ?_
  refine om1 rfl (new_boxN rfl) rfl rfl trivial (fun p1 => ?_)
  refine o1 rfl (det_assign rfl) rfl rfl trivial ?_
  refine be rfl ?_
  refine k_then ?_
  refine t_seq ?_
  refine b0 ?_
  refine o1 rfl (det_fieldAddr fld57_1 rfl) rfl rfl trivial ?_
  refine o1 rfl (det_load1 t1_3 rfl rfl (.head _) rfl) rfl rfl trivial ?_
  refine o1 rfl (det_assign rfl) rfl rfl trivial ?_
  refine be rfl ?_
  refine k_then ?_
  refine t_ret ?_
  refine ret_tmp rfl rfl rfl (fun w1 hs => ?_)
  exact ⟨rfl, hs.keep⟩
theorem sum_ok {w : World} {F : Know} (hF : ∀ a v, F a = some v → w.cell? a = some v) {ps : List Pt} {p : Nat} (G : Gives Try.prog 120 [.pointer (some ⟨p, 0, none⟩)] F (yldP ps)) (hb : ∀ k, k < ps.length → 0 ≤ (atP ps k).left ∧ (atP ps k).left ≤ 65536) (hnb : ps.length ≤ 65536) : Pure Try.prog 115 [.func (.func 120) [].toArray [.pointer (some ⟨p, 0, none⟩)].toArray, .func (.func 116) [].toArray [].toArray] w (.int .i64 (octs ps)) := by
  refine fn_pure (F := F) Try.func115 rfl Try.ntmps115 rfl hF ?_
  refine t_seq ?_
  refine b0 ?_
  refine om1 rfl (new_box1 rfl rfl) rfl rfl trivial (fun p3 => ?_)
  refine o1 rfl (det_assign rfl) rfl rfl trivial ?_
  refine be rfl ?_
  refine k_then ?_
  refine t_seq ?_
  refine b0 ?_
  refine om1 rfl (new_alloc z3) rfl rfl trivial (fun p5 => ?_)
  refine st1 nofun rfl t1_3 rfl rfl rfl .head rfl trivial rfl ?_
  refine be rfl ?_
  refine k_then ?_
  refine t_seq ?_
  refine t_seq ?_
  refine b0 ?_
  refine o1 rfl (det_move rfl) rfl rfl trivial ?_
  refine be rfl ?_
  refine k_then ?_
  refine t_block ?_
  refine t_rangeF (σ := Int) (fun s => [(p5, .cells [.int .i64 s].toArray 3 (0, 0)), (p3, .cells [.func (.func 116) [].toArray [].toArray].toArray 169 (0, 0))]) (fun k s => s = octK ps k) (fun _ s => False) 0 (fun k => [.int .i64 k, .agg (ptv (atP ps k)).toArray]) (xs := yldP ps) (env0 := [(3, _), (4, _), (5, _)]) rfl hb120 (G.incl (fun _ _ h => h)) (fun k hk => yldP_get hk) (fun _ => rfl) rfl (octK_zero ps).symm ⟨rfl, rfl, rfl, trivial⟩ (.refl _) ?_ ?_ ?_
  ·
    rintro l D r k s hr hk hI
    rw [yldP_len] at hk
    subst hI
    have hbk := hb k hk
    have hok := octK_bd hb k (by omega)
    refine b0 ?_
    refine om1 rfl (new_alloc z57) rfl rfl trivial (fun p7 => ?_)
    refine stN nofun rfl tN57 rfl rfl rfl .head rfl trivial rfl rfl ?_
    refine be rfl ?_
    refine k_then ?_
    refine k_begin (pre := [_, _, _]) hr.1 rfl ?_
    refine t_block ?_
    refine bD mixed ?_
    refine r_seg 6 5 [] [0, 1, 2, 3, 4] (by kernel_rfl) ?_
    refine s1 rfl (det_load1 t1_3 rfl rfl (.tail _ (.head _)) rfl) rfl rfl trivial rfl ?_
    refine s1 rfl (det_load1 t1_169 rfl rfl (.tail _ (.tail _ (.head _))) rfl) rfl rfl trivial rfl ?_
    refine s1 rfl (det_loadN tN57 rfl rfl (.head _) rfl) rfl rfl trivial rfl ?_
    refine s1 rfl (det_call hb116 rfl rfl (fun w1 hs => oct1_ok hs.know)) rfl rfl trivial rfl ?_
    first | (refine s1 rfl (det_addI rfl rfl ?_) rfl rfl trivial rfl ?_; (· omega)) | refine s1 rfl (det_add rfl rfl) rfl rfl trivial rfl ?_
    refine sg_nil ?_
    refine st1 (fun _ => by kernel_rfl) rfl t1_3 rfl rfl rfl (.tail .head) rfl trivial rfl ?_
    refine be rfl ?_
    refine k_blk ?_
    rw [← octK_succ hk]
    refine round_next (octK ps (k + 1)) hr rfl (.cons _ (.refl _)) rfl rfl
  ·
    rintro D s hI
    rw [yldP_len] at hI
    subst hI
    refine k_blk ?_
    refine k_then ?_
    refine t_seq ?_
    refine b0 ?_
    refine o1 rfl (det_load1 t1_3 rfl rfl (.head _) rfl) rfl rfl trivial ?_
    refine o1 rfl (det_assign rfl) rfl rfl trivial ?_
    refine be rfl ?_
    refine k_then ?_
    refine t_ret ?_
    refine ret_mark (pre := [_, _]) (vs := [_]) rfl rfl ⟨(.tmp rfl), trivial⟩ rfl (fun w1 hs => ?_)
    exact ⟨by rw [octK_all]; rfl, hs.keep⟩
  ·
    rintro D j s hX
    exact hX.elim
end Go.Proofs.Cp

/-
  Walks through layers 36, 37 and 38 and their references.
-/
namespace Go.Proofs.Cp
open Go Go.Eng Go.Qu
set_option maxRecDepth 4000
theorem oct_ok {w : World} {F : Know} (hF : ∀ a v, F a = some v → w.cell? a = some v) {A : Option Addr} {n c : Nat} {cap : Int} {ps : List Pt} (hP : PK F A n ps) (hnb : n ≤ 65536) (hv : validP ps = true) : Pure Try.prog 98 [.agg [.int .i64 cap, .slice A n c].toArray] w (.int .i64 (octs ps)) := by
  refine fn_pure (F := F) Try.func98 rfl Try.ntmps98 rfl hF ?_
  refine t_seq ?_
  refine b0 ?_
  refine om1 rfl (new_boxN rfl) rfl rfl trivial (fun p1 => ?_)
  refine o1 rfl (det_assign rfl) rfl rfl trivial ?_
  refine be rfl ?_
  refine k_then ?_
  refine t_seq ?_
  refine b0 ?_
  refine o1 rfl (det_loadN tN151 rfl rfl (.head _) rfl) rfl rfl trivial ?_
  refine oF nofun rfl hb114 rfl rfl rfl trivial (fun w1 hs => (parts_ok hs.know).any) (fun v F1 hF1 hN1 ⟨p, hv1, h0, h1⟩ => ?_)
  subst hv1
  replace hP := hP.mono hF1
  have hlb : ∀ k, k < ps.length → 0 ≤ (atP ps k).left ∧ (atP ps k).left ≤ 65536 := fun k hk => by have := okP_bd (valid_bd hv hk); omega
  refine o1 rfl (det_call hb115 rfl rfl (fun w1 hs => sum_ok hs.know (parts_gives hP hnb h1) hlb (by rw [← hP.len]; exact hnb))) rfl rfl trivial ?_
  refine o1 rfl (det_assign rfl) rfl rfl trivial ?_
  refine be rfl ?_
  refine k_then ?_
  refine t_ret ?_
  refine ret_tmp rfl rfl rfl (fun w1 hs => ?_)
  exact ⟨rfl, hs.keep⟩
theorem qvalid_ok {w : World} {F : Know} (hF : ∀ a v, F a = some v → w.cell? a = some v) {A : Option Addr} {n c : Nat} {cap : Int} {ps : List Pt} (hP : PK F A n ps) (hnb : n ≤ 65536) : Pure Try.prog 97 [.agg [.int .i64 cap, .slice A n c].toArray] w (.bool (validP ps)) := by
  refine fn_pure (F := F) Try.func97 rfl Try.ntmps97 rfl hF ?_
  refine t_seq ?_
  refine b0 ?_
  refine om1 rfl (new_boxN rfl) rfl rfl trivial (fun p1 => ?_)
  refine o1 rfl (det_assign rfl) rfl rfl trivial ?_
  refine be rfl ?_
  refine k_then ?_
  refine t_scope0 ?_
  refine t_seq ?_
  refine b0 ?_
  refine om1 rfl (new_alloc z4) rfl rfl trivial (fun p3 => ?_)
  refine st1 nofun rfl t1_4 rfl rfl rfl .head rfl trivial rfl ?_
  refine be rfl ?_
  refine k_then ?_
  refine t_seq ?_
  refine t_label ?_
  refine k_then ?_
  refine t_seq ?_
  refine t_seq ?_
  refine b0 ?_
  refine o1 rfl (det_loadN tN151 rfl rfl (.tail _ (.head _)) rfl) rfl rfl trivial ?_
  refine oF nofun rfl hb114 rfl rfl rfl trivial (fun w1 hs => (parts_ok hs.know).any) (fun v F1 hF1 hN1 ⟨p, hv1, h0, h1⟩ => ?_)
  subst hv1
  replace hP := hP.mono hF1
  refine be rfl ?_
  refine k_then ?_
  refine t_block ?_
  refine t_rangeF (σ := Bool) (fun s => [(p3, .cells [.bool s].toArray 4 (0, 0))]) (fun k s => s = true ∧ ∀ i, i < k → okAt i (atP ps i) = true) (fun j s => j = .exit 0 ∧ s = false ∧ validP ps = false) true (fun k => [.int .i64 k, .agg (ptv (atP ps k)).toArray]) (xs := yldP ps) (env0 := [(2, _), (3, _)]) rfl hb120 (parts_gives hP hnb h1) (fun k hk => yldP_get hk) (fun _ => rfl) rfl ⟨rfl, fun i hi => absurd hi (Nat.not_lt_zero i)⟩ ⟨rfl, rfl, trivial⟩ (.cons_cons _ (.cons _ (.refl _))) ?_ ?_ ?_
  ·
    rintro l D r k s hr hk ⟨hs1, hI⟩
    rw [yldP_len] at hk
    subst hs1
    refine t_seq ?_
    refine b0 ?_
    refine o1 rfl (det_assign rfl) rfl rfl trivial ?_
    refine be rfl ?_
    refine k_then ?_
    refine b0 ?_
    refine om1 rfl (new_alloc z57) rfl rfl trivial (fun p5 => ?_)
    refine stN nofun rfl tN57 rfl rfl rfl .head rfl trivial rfl rfl ?_
    refine be rfl ?_
    refine k_then ?_
    refine k_begin (pre := [_, _]) hr.1 rfl ?_
    refine t_block ?_
    refine t_seq ?_
    refine b0 ?_
    refine o1 rfl (det_loadN tN57 rfl rfl (.head _) rfl) rfl rfl trivial ?_
    refine o1 rfl (det_call hb53 rfl rfl (fun w1 hs => cpart_ok hs.know)) rfl rfl trivial ?_
    refine o1 rfl (det_eql rfl rfl) rfl rfl trivial ?_
    refine o2P beq_iff_eq rfl (det_move rfl) rfl rfl trivial (fun hb => ?_) (fun hb => ?_)
    ·
      refine o1 rfl (det_move rfl) rfl rfl ⟨_, rfl, rfl⟩ ?_
      refine o1 rfl (det_eql rfl rfl) rfl rfl ⟨_, rfl, rfl⟩ ?_
      refine o2P beq_iff_eq rfl (det_move rfl) rfl rfl ⟨_, rfl, rfl⟩ (fun hb => ?_) (fun hb => ?_)
      ·
        refine on rfl rfl rfl ⟨_, rfl, .inl rfl⟩ ?_
        refine on rfl rfl rfl ⟨_, rfl, .inl rfl⟩ ?_
        refine on rfl rfl rfl ⟨_, rfl, .inl rfl⟩ ?_
        refine o1 rfl (det_pickT rfl rfl) rfl rfl ⟨_, rfl, rfl⟩ ?_
        refine o1 rfl (det_pickT rfl rfl) rfl rfl trivial ?_
        refine st1 nofun rfl t1_4 rfl rfl rfl (.tail .head) rfl trivial rfl ?_
        refine be rfl ?_
        refine k_then ?_
        refine t_seq ?_
        refine b0 ?_
        refine o1 rfl (det_load1 t1_4 rfl rfl (.tail _ (.head _)) rfl) rfl rfl trivial ?_
        refine o1 rfl (det_not rfl) rfl rfl trivial ?_
        refine be rfl ?_
        refine k_then ?_
        refine t_condP not_iff_false rfl (fun hb => ?_) (fun hb => ?_)
        ·
          refine t_exit ?_
          refine k_blkN (by decide) ?_
          cases hb
        ·
          refine t_skip ?_
          refine k_blk ?_
          refine round_next true hr ⟨rfl, fun i hi => by
              rcases Nat.lt_or_ge i k with h | h
              · exact hI i h
              · rw [show i = k by omega]; grind [okAt]⟩ (.cons _ (.refl _)) rfl rfl
      ·
        refine o1 rfl (det_fieldAddr fld57_2 rfl) rfl rfl ⟨_, rfl, rfl⟩ ?_
        refine o1 rfl (det_load1 t1_4 rfl rfl (.head _) rfl) rfl rfl ⟨_, rfl, rfl⟩ ?_
        refine o1 rfl (det_not rfl) rfl rfl ⟨_, rfl, rfl⟩ ?_
        refine o1 rfl (det_pickF rfl rfl) rfl rfl ⟨_, rfl, rfl⟩ ?_
        refine o1 rfl (det_pickT rfl rfl) rfl rfl trivial ?_
        refine st1 nofun rfl t1_4 rfl rfl rfl (.tail .head) rfl trivial rfl ?_
        refine be rfl ?_
        refine k_then ?_
        refine t_seq ?_
        refine b0 ?_
        refine o1 rfl (det_load1 t1_4 rfl rfl (.tail _ (.head _)) rfl) rfl rfl trivial ?_
        refine o1 rfl (det_not rfl) rfl rfl trivial ?_
        refine be rfl ?_
        refine k_then ?_
        refine t_condP not_iff_false rfl (fun hb => ?_) (fun hb => ?_)
        ·
          refine t_exit ?_
          refine k_blkN (by decide) ?_
          refine round_exit (!(atP ps k).rest) ⟨rfl, by simpa using hb, validP_false hk (by grind [okAt])⟩ (.cons _ (.refl _)) rfl rfl
        ·
          refine t_skip ?_
          refine k_blk ?_
          refine round_next (!(atP ps k).rest) hr ⟨by simpa using hb, fun i hi => by
              rcases Nat.lt_or_ge i k with h | h
              · exact hI i h
              · rw [show i = k by omega]; grind [okAt]⟩ (.cons _ (.refl _)) rfl rfl
    ·
      refine on rfl rfl rfl ⟨_, rfl, .inl rfl⟩ ?_
      refine on rfl rfl rfl ⟨_, rfl, .inl rfl⟩ ?_
      refine on rfl rfl rfl ⟨_, rfl, .inl rfl⟩ ?_
      refine on rfl rfl rfl ⟨_, rfl, .inr rfl⟩ ?_
      refine on rfl rfl rfl ⟨_, rfl, .inr rfl⟩ ?_
      refine on rfl rfl rfl ⟨_, rfl, .inr rfl⟩ ?_
      refine on rfl rfl rfl ⟨_, rfl, .inl rfl⟩ ?_
      refine o1 rfl (det_pickF rfl rfl) rfl rfl trivial ?_
      refine st1 nofun rfl t1_4 rfl rfl rfl (.tail .head) rfl trivial rfl ?_
      refine be rfl ?_
      refine k_then ?_
      refine t_seq ?_
      refine b0 ?_
      refine o1 rfl (det_load1 t1_4 rfl rfl (.tail _ (.head _)) rfl) rfl rfl trivial ?_
      refine o1 rfl (det_not rfl) rfl rfl trivial ?_
      refine be rfl ?_
      refine k_then ?_
      refine t_condP not_iff_false rfl (fun hb => ?_) (fun hb => ?_)
      ·
        refine t_exit ?_
        refine k_blkN (by decide) ?_
        refine round_exit false ⟨rfl, rfl, validP_false hk (by grind [okAt])⟩ (.cons _ (.refl _)) rfl rfl
      ·
        refine t_skip ?_
        refine k_blk ?_
        exact absurd rfl hb
  ·
    rintro D s ⟨hs1, hI⟩
    rw [yldP_len] at hI
    subst hs1
    refine k_blk ?_
    refine k_then ?_
    refine t_seq ?_
    refine b0 ?_
    refine o1 rfl (det_load1 t1_4 rfl rfl (.head _) rfl) rfl rfl trivial ?_
    refine o1 rfl (det_assign rfl) rfl rfl trivial ?_
    refine be rfl ?_
    refine k_then ?_
    refine t_ret (k_nogR (?_))
    refine ret_mark (pre := [_]) (vs := [_]) rfl rfl ⟨(.tmp rfl), trivial⟩ rfl (fun w1 hs => ?_)
    exact ⟨by rw [validP_iff.2 hI]; rfl, hs.keep⟩
  ·
    rintro D j s ⟨hj, hs1, hI⟩
    subst hj
    subst hs1
    refine t_exit ?_
    refine k_blkE ?_
    refine k_then ?_
    refine t_seq ?_
    refine b0 ?_
    refine o1 rfl (det_load1 t1_4 rfl rfl (.head _) rfl) rfl rfl trivial ?_
    refine o1 rfl (det_assign rfl) rfl rfl trivial ?_
    refine be rfl ?_
    refine k_then ?_
    refine t_ret (k_nogR (?_))
    refine ret_mark (pre := [_]) (vs := [_]) rfl rfl ⟨(.tmp rfl), trivial⟩ rfl (fun w1 hs => ?_)
    exact ⟨by rw [hI]; rfl, hs.keep⟩
end Go.Proofs.Cp

/-
  Walks through layers 36, 37 and 38 and their references.
-/
namespace Go.Proofs.Cp
open Go Go.Eng Go.Qu
set_option maxRecDepth 4000
theorem qcheck_ok {w : World} {F : Know} (hF : ∀ a v, F a = some v → w.cell? a = some v) {A : Option Addr} {n c : Nat} {cap : Int} {ps : List Pt} (hP : PK F A n ps) (hnb : n ≤ 65536) : Pure Try.prog 73 [.agg [.int .i64 cap, .slice A n c].toArray] w (.int .i64 (if rightQ cap ps then 0 else 461)) := by
  refine fn_pure (F := F) Try.func73 rfl Try.ntmps73 rfl hF ?_
  refine t_seq ?_
  refine b0 ?_
  refine om1 rfl (new_boxN rfl) rfl rfl trivial (fun p1 => ?_)
  refine o1 rfl (det_assign rfl) rfl rfl trivial ?_
  refine be rfl ?_
  refine k_then ?_
  refine t_seq ?_
  refine b0 ?_
  refine o1 rfl (det_loadN tN73 rfl rfl (.head _) rfl) rfl rfl trivial ?_
  refine o1 rfl (det_build rfl (fun w => bld151_0 _ _ _ _ w)) rfl rfl trivial ?_
  refine om1 rfl (new_alloc z151) rfl rfl trivial (fun p3 => ?_)
  refine stN nofun rfl tN151 rfl rfl rfl .head rfl trivial rfl rfl ?_
  refine be rfl ?_
  refine k_then ?_
  refine t_seq ?_
  refine b0 ?_
  refine o1 rfl (det_loadN tN151 rfl rfl (.head _) rfl) rfl rfl trivial ?_
  refine o1 rfl (det_makeFunc rfl rfl) rfl rfl trivial ?_
  refine o1 rfl (det_assign rfl) rfl rfl trivial ?_
  refine be rfl ?_
  refine k_then ?_
  refine t_seq ?_
  refine t_seq ?_
  refine b0 ?_
  refine o1 rfl (det_fieldAddr fld73_0 rfl) rfl rfl trivial ?_
  refine o1 rfl (det_load1 t1_3 rfl rfl (.tail _ (.head _)) rfl) rfl rfl trivial ?_
  refine o1 rfl (det_call hb88 rfl rfl (fun w1 hs => within_ok hs.know)) rfl rfl trivial ?_
  refine o1 rfl (det_not rfl) rfl rfl trivial ?_
  refine o2P not_iff_false rfl (det_move rfl) rfl rfl trivial (fun hb => ?_) (fun hb => ?_)
  ·
    refine on rfl rfl rfl ⟨_, rfl, .inl rfl⟩ ?_
    refine on rfl rfl rfl ⟨_, rfl, .inl rfl⟩ ?_
    refine on rfl rfl rfl ⟨_, rfl, .inl rfl⟩ ?_
    refine o1 rfl (det_pickT rfl rfl) rfl rfl trivial ?_
    refine be rfl ?_
    refine k_then ?_
    refine t_condT rfl ?_
    refine t_seq ?_
    refine b0 ?_
    refine o1 rfl (det_assign rfl) rfl rfl trivial ?_
    refine be rfl ?_
    refine k_then ?_
    refine t_ret (k_thenR (?_))
    refine ret_tmp rfl rfl rfl (fun w1 hs => ?_)
    first | exact ⟨rfl, hs.keep⟩ | exact ⟨by grind [rightQ, fullO, restQ], hs.keep⟩
  ·
    refine o1 rfl (det_move rfl) rfl rfl ⟨_, rfl, rfl⟩ ?_
    refine o1 rfl (det_call hb97 rfl rfl (fun w1 hs => qvalid_ok hs.know hP hnb)) rfl rfl ⟨_, rfl, rfl⟩ ?_
    refine o1 rfl (det_not rfl) rfl rfl ⟨_, rfl, rfl⟩ ?_
    refine o1 rfl (det_pickF rfl rfl) rfl rfl trivial ?_
    refine be rfl ?_
    refine k_then ?_
    refine t_condP not_iff_false rfl (fun hb => ?_) (fun hb => ?_)
    ·
      refine t_seq ?_
      refine b0 ?_
      refine o1 rfl (det_assign rfl) rfl rfl trivial ?_
      refine be rfl ?_
      refine k_then ?_
      refine t_ret (k_thenR (?_))
      refine ret_tmp rfl rfl rfl (fun w1 hs => ?_)
      first | exact ⟨rfl, hs.keep⟩ | exact ⟨by grind [rightQ, fullO, restQ], hs.keep⟩
    ·
      refine t_skip ?_
      refine k_then ?_
      refine t_seq ?_
      refine b0 ?_
      have hV : validP ps = true := by grind
      have hob := octs_bd hV
      have hnl := hP.len
      refine o1 rfl (det_loadN tN151 rfl rfl (.head _) rfl) rfl rfl trivial ?_
      refine o1 rfl (det_call hb98 rfl rfl (fun w1 hs => oct_ok hs.know hP hnb hV)) rfl rfl trivial ?_
      refine o1 rfl (det_assign rfl) rfl rfl trivial ?_
      refine be rfl ?_
      refine k_then ?_
      refine t_seq ?_
      refine t_seq ?_
      refine b0 ?_
      refine o1 rfl (det_fieldAddr fld73_1 rfl) rfl rfl trivial ?_
      refine o1 rfl (det_load1 t1_27 rfl rfl (.tail _ (.head _)) rfl) rfl rfl trivial ?_
      refine o1 rfl (det_lenS sl27 rfl) rfl rfl trivial ?_
      refine o1 rfl (det_gtr rfl rfl) rfl rfl trivial ?_
      refine o2P decide_eq_true_iff rfl (det_move rfl) rfl rfl trivial (fun hb => ?_) (fun hb => ?_)
      ·
        have hnl := hP.len
        have hlt0 : 0 < ps.length := by omega
        obtain ⟨A, rfl⟩ := hP.some hlt0
        have hat0 := atP_get hlt0
        have hhd := head_bd hV hlt0
        rw [hat0] at hhd
        refine o1 rfl (det_fieldAddr fld73_1 rfl) rfl rfl ⟨_, rfl, rfl⟩ ?_
        refine o1 rfl (det_load1 t1_27 rfl rfl (.tail _ (.head _)) rfl) rfl rfl ⟨_, rfl, rfl⟩ ?_
        first | (refine o1 rfl (det_indexAddr sl27 rfl rfl ?_) rfl rfl ⟨_, rfl, rfl⟩ ?_; (· (first | decide | omega)))
        refine o1 rfl (det_fieldAddr fld57_2 rfl) rfl rfl ⟨_, rfl, rfl⟩ ?_
        refine o1 rfl (det_loadK t1_4 rfl (hP.cell (i := 0) (k := 0) (j := 6) (u := .bool ps[0].rest) rfl hlt0 rfl)) rfl rfl ⟨_, rfl, rfl⟩ ?_
        refine o1 rfl (det_pickT rfl rfl) rfl rfl trivial ?_
        refine be rfl ?_
        refine k_then ?_
        refine t_condP Iff.rfl rfl (fun hb => ?_) (fun hb => ?_)
        ·
          refine b0 ?_
          refine o1 rfl (det_move rfl) rfl rfl trivial ?_
          refine o1 rfl (det_fieldAddr fld73_1 rfl) rfl rfl trivial ?_
          refine o1 rfl (det_load1 t1_27 rfl rfl (.tail _ (.head _)) rfl) rfl rfl trivial ?_
          first | (refine o1 rfl (det_indexAddr sl27 rfl rfl ?_) rfl rfl trivial ?_; (· (first | decide | omega)))
          refine o1 rfl (det_fieldAddr fld57_1 rfl) rfl rfl trivial ?_
          refine o1 rfl (det_loadK t1_3 rfl (hP.cell (i := 0) (k := 0) (j := 5) (u := .int .i64 ps[0].left) rfl hlt0 rfl)) rfl rfl trivial ?_
          first | (refine o1 rfl (det_subI rfl rfl ?_) rfl rfl trivial ?_; (· omega)) | refine o1 rfl (det_sub rfl rfl) rfl rfl trivial ?_
          refine o1 rfl (det_assign rfl) rfl rfl trivial ?_
          refine be rfl ?_
          refine k_then ?_
          refine t_seq ?_
          refine t_seq ?_
          refine b0 ?_
          refine o1 rfl (det_move rfl) rfl rfl trivial ?_
          refine o1 rfl (det_fieldAddr fld73_0 rfl) rfl rfl trivial ?_
          refine o1 rfl (det_load1 t1_3 rfl rfl (.tail _ (.head _)) rfl) rfl rfl trivial ?_
          refine o1 rfl (det_gtr rfl rfl) rfl rfl trivial ?_
          refine be rfl ?_
          refine k_then ?_
          refine t_condP decide_eq_true_iff rfl (fun hb => ?_) (fun hb => ?_)
          ·
            refine t_seq ?_
            refine b0 ?_
            refine o1 rfl (det_assign rfl) rfl rfl trivial ?_
            refine be rfl ?_
            refine k_then ?_
            refine t_ret (k_thenR (?_))
            refine ret_tmp rfl rfl rfl (fun w1 hs => ?_)
            first | exact ⟨rfl, hs.keep⟩ | exact ⟨by grind [rightQ, fullO, restQ], hs.keep⟩
          ·
            refine t_skip ?_
            refine k_then ?_
            refine t_seq ?_
            refine b0 ?_
            refine o1 rfl (det_assign rfl) rfl rfl trivial ?_
            refine be rfl ?_
            refine k_then ?_
            refine t_ret ?_
            refine ret_tmp rfl rfl rfl (fun w1 hs => ?_)
            first | exact ⟨rfl, hs.keep⟩ | exact ⟨by grind [rightQ, fullO, restQ], hs.keep⟩
        ·
          refine t_skip ?_
          refine k_then ?_
          refine t_seq ?_
          refine t_seq ?_
          refine b0 ?_
          refine o1 rfl (det_move rfl) rfl rfl trivial ?_
          refine o1 rfl (det_fieldAddr fld73_0 rfl) rfl rfl trivial ?_
          refine o1 rfl (det_load1 t1_3 rfl rfl (.tail _ (.head _)) rfl) rfl rfl trivial ?_
          refine o1 rfl (det_gtr rfl rfl) rfl rfl trivial ?_
          refine be rfl ?_
          refine k_then ?_
          refine t_condP decide_eq_true_iff rfl (fun hb => ?_) (fun hb => ?_)
          ·
            refine t_seq ?_
            refine b0 ?_
            refine o1 rfl (det_assign rfl) rfl rfl trivial ?_
            refine be rfl ?_
            refine k_then ?_
            refine t_ret (k_thenR (?_))
            refine ret_tmp rfl rfl rfl (fun w1 hs => ?_)
            first | exact ⟨rfl, hs.keep⟩ | exact ⟨by grind [rightQ, fullO, restQ], hs.keep⟩
          ·
            refine t_skip ?_
            refine k_then ?_
            refine t_seq ?_
            refine b0 ?_
            refine o1 rfl (det_assign rfl) rfl rfl trivial ?_
            refine be rfl ?_
            refine k_then ?_
            refine t_ret ?_
            refine ret_tmp rfl rfl rfl (fun w1 hs => ?_)
            first | exact ⟨rfl, hs.keep⟩ | exact ⟨by grind [rightQ, fullO, restQ], hs.keep⟩
      ·
        refine on rfl rfl rfl ⟨_, rfl, .inl rfl⟩ ?_
        refine on rfl rfl rfl ⟨_, rfl, .inl rfl⟩ ?_
        refine on rfl rfl rfl ⟨_, rfl, .inl rfl⟩ ?_
        refine on rfl rfl rfl ⟨_, rfl, .inl rfl⟩ ?_
        refine on rfl rfl rfl ⟨_, rfl, .inl rfl⟩ ?_
        refine o1 rfl (det_pickF rfl rfl) rfl rfl trivial ?_
        refine be rfl ?_
        refine k_then ?_
        refine t_condF rfl ?_
        refine t_skip ?_
        refine k_then ?_
        refine t_seq ?_
        refine t_seq ?_
        refine b0 ?_
        refine o1 rfl (det_move rfl) rfl rfl trivial ?_
        refine o1 rfl (det_fieldAddr fld73_0 rfl) rfl rfl trivial ?_
        refine o1 rfl (det_load1 t1_3 rfl rfl (.tail _ (.head _)) rfl) rfl rfl trivial ?_
        refine o1 rfl (det_gtr rfl rfl) rfl rfl trivial ?_
        refine be rfl ?_
        refine k_then ?_
        refine t_condP decide_eq_true_iff rfl (fun hb => ?_) (fun hb => ?_)
        ·
          refine t_seq ?_
          refine b0 ?_
          refine o1 rfl (det_assign rfl) rfl rfl trivial ?_
          refine be rfl ?_
          refine k_then ?_
          refine t_ret (k_thenR (?_))
          refine ret_tmp rfl rfl rfl (fun w1 hs => ?_)
          first | exact ⟨rfl, hs.keep⟩ | exact ⟨by grind [rightQ, fullO, restQ], hs.keep⟩
        ·
          refine t_skip ?_
          refine k_then ?_
          refine t_seq ?_
          refine b0 ?_
          refine o1 rfl (det_assign rfl) rfl rfl trivial ?_
          refine be rfl ?_
          refine k_then ?_
          refine t_ret ?_
          refine ret_tmp rfl rfl rfl (fun w1 hs => ?_)
          first | exact ⟨rfl, hs.keep⟩ | exact ⟨by grind [rightQ, fullO, restQ], hs.keep⟩
theorem qnew_ok {w : World} {F : Know} (hF : ∀ a v, F a = some v → w.cell? a = some v) {cap : Int} : Pure Try.prog 69 [.int .i64 cap] w (.tuple [.agg [.int .i64 (if 0 ≤ cap ∧ cap ≤ 65536 then cap else 0), .slice none 0 0].toArray, .int .i64 (if 0 ≤ cap ∧ cap ≤ 65536 then 0 else 2)].toArray) := by
  refine fn_pure (F := F) Try.func69 rfl Try.ntmps69 rfl hF ?_
  refine t_seq ?_
  refine b0 ?_
  refine om1 rfl (new_alloc z73) rfl rfl trivial (fun p2 => ?_)
  refine o1 rfl (det_assign rfl) rfl rfl trivial ?_
  refine be rfl ?_
  refine k_then ?_
  refine t_seq ?_
  refine t_seq ?_
  refine b0 ?_
  refine o1 rfl (det_move rfl) rfl rfl trivial ?_
  refine o1 rfl (det_call hb88 rfl rfl (fun w1 hs => within_ok hs.know)) rfl rfl trivial ?_
  refine o1 rfl (det_not rfl) rfl rfl trivial ?_
  refine be rfl ?_
  refine k_then ?_
  refine t_condP not_iff_false rfl (fun hb => ?_) (fun hb => ?_)
  ·
    refine t_seq ?_
    refine b0 ?_
    refine o1 rfl (det_build rfl (fun w => bld73_ w)) rfl rfl trivial ?_
    refine stN nofun rfl tN73 rfl rfl rfl .head rfl trivial rfl rfl ?_
    refine o1 rfl (det_assign rfl) rfl rfl trivial ?_
    refine be rfl ?_
    refine k_then ?_
    refine t_ret (k_thenR (?_))
    refine ret_any (vs := [_, _]) rfl rfl ⟨(.cellN tN73 rfl rfl (.head _) rfl), (.tmp rfl), trivial⟩ rfl (fun w1 hs => ?_)
    exact ⟨by grind [pack], hs.keep⟩
  ·
    refine t_skip ?_
    refine k_then ?_
    refine t_seq ?_
    refine b0 ?_
    refine o1 rfl (det_move rfl) rfl rfl trivial ?_
    refine o1 rfl (det_build rfl (fun w => bld73_0 _ w)) rfl rfl trivial ?_
    refine stN nofun rfl tN73 rfl rfl rfl .head rfl trivial rfl rfl ?_
    refine o1 rfl (det_assign rfl) rfl rfl trivial ?_
    refine be rfl ?_
    refine k_then ?_
    refine t_ret ?_
    refine ret_any (vs := [_, _]) rfl rfl ⟨(.cellN tN73 rfl rfl (.head _) rfl), (.tmp rfl), trivial⟩ rfl (fun w1 hs => ?_)
    exact ⟨by grind [pack], hs.keep⟩
end Go.Proofs.Cp

/-
  Walks through layers 36, 37 and 38 and their references.
-/
namespace Go.Proofs.Cp
open Go Go.Eng Go.Qu
set_option maxRecDepth 4000
theorem push_ok {w : World} {F : Know} (hF : ∀ a v, F a = some v → w.cell? a = some v) {A : Option Addr} {n c : Nat} {cap : Int} {ps : List Pt} (hP : PK F A n ps) (hnb : n ≤ 65536) (hnc : n ≤ c) (hcm : c ≤ maxLen) {x : It} : CallsF Try.prog 105 [.agg [.int .i64 cap, .slice A n c].toArray, .agg [.int .i64 x.st, .int .i64 x.sq, .int .i64 x.cl, .int .i64 x.sz, .int .i64 x.sn].toArray] w F (fun v F2 => ∃ q, v = .tuple [q, .bool (pushQ cap ps x).2.1, .int .i64 (pushQ cap ps x).2.2].toArray ∧ QV F2 q (pushQ cap ps x).1.1 (pushQ cap ps x).1.2) := by
  refine fn_fresh (F := F) Try.func105 rfl Try.ntmps105 rfl hF ?_
  refine t_seq ?_
  refine b0 ?_
  refine om1 rfl (new_boxN rfl) rfl rfl trivial (fun p2 => ?_)
  refine om1 rfl (new_boxN rfl) rfl rfl trivial (fun p3 => ?_)
  refine om1 rfl (new_alloc z73) rfl rfl trivial (fun p4 => ?_)
  refine o1 rfl (det_assign rfl) rfl rfl trivial ?_
  refine o1 rfl (det_assign rfl) rfl rfl trivial ?_
  refine be rfl ?_
  refine k_then ?_
  refine t_seq ?_
  refine t_seq ?_
  refine b0 ?_
  refine o1 rfl (det_loadN tN73 rfl rfl (.tail _ (.tail _ (.head _))) rfl) rfl rfl trivial ?_
  refine o1 rfl (det_call hb73 rfl rfl (fun w1 hs => qcheck_ok hs.know hP hnb)) rfl rfl trivial ?_
  refine o1 rfl (det_assign rfl) rfl rfl trivial ?_
  refine be rfl ?_
  refine k_then ?_
  refine t_seq ?_
  refine b0 ?_
  refine o1 rfl (det_move rfl) rfl rfl trivial ?_
  refine o1 rfl (det_neq rfl rfl) rfl rfl trivial ?_
  refine be rfl ?_
  refine k_then ?_
  refine t_condP bne_iff_ne rfl (fun hb => ?_) (fun hb => ?_)
  ·
    refine t_seq ?_
    refine b0 ?_
    refine o1 rfl (det_build rfl (fun w => bld73_ w)) rfl rfl trivial ?_
    refine o1 rfl (det_move rfl) rfl rfl trivial ?_
    refine stN nofun rfl tN73 rfl rfl rfl .head rfl trivial rfl rfl ?_
    refine o1 rfl (det_assign rfl) rfl rfl trivial ?_
    refine o1 rfl (det_assign rfl) rfl rfl trivial ?_
    refine be rfl ?_
    refine k_then ?_
    refine t_ret (k_thenR (?_))
    refine ret_any (vs := [_, _, _]) rfl rfl ⟨(.cellN tN73 rfl rfl (.head _) rfl), (.tmp rfl), (.tmp rfl), trivial⟩ rfl (fun w1 hs => ?_)
    have hR0 : rightQ cap ps = false := by grind
    have hq : pushQ cap ps x = ((0, []), false, 461) := by unfold pushQ; rw [if_pos hR0]
    exact end_fresh hs fun F2 _ _ _ => ⟨_, by rw [hq, hR0]; rfl, by rw [hq]; exact QV.nil⟩
  ·
    refine t_skip ?_
    refine k_then ?_
    refine t_seq ?_
    refine t_seq ?_
    refine b0 ?_
    have hR : rightQ cap ps = true := by grind
    refine o1 rfl (det_loadN tN55 rfl rfl (.tail _ (.head _)) rfl) rfl rfl trivial ?_
    refine o1 rfl (det_call hb77 rfl rfl (fun w1 hs => citem_ok hs.know)) rfl rfl trivial ?_
    refine o1 rfl (det_assign rfl) rfl rfl trivial ?_
    refine be rfl ?_
    refine k_then ?_
    refine t_seq ?_
    refine b0 ?_
    refine o1 rfl (det_move rfl) rfl rfl trivial ?_
    refine o1 rfl (det_neq rfl rfl) rfl rfl trivial ?_
    refine be rfl ?_
    refine k_then ?_
    refine t_condP bne_iff_ne rfl (fun hb => ?_) (fun hb => ?_)
    ·
      refine t_seq ?_
      refine b0 ?_
      refine o1 rfl (det_build rfl (fun w => bld73_ w)) rfl rfl trivial ?_
      refine o1 rfl (det_move rfl) rfl rfl trivial ?_
      refine stN nofun rfl tN73 rfl rfl rfl .head rfl trivial rfl rfl ?_
      refine o1 rfl (det_assign rfl) rfl rfl trivial ?_
      refine o1 rfl (det_assign rfl) rfl rfl trivial ?_
      refine be rfl ?_
      refine k_then ?_
      refine t_ret (k_thenR (?_))
      refine ret_any (vs := [_, _, _]) rfl rfl ⟨(.cellN tN73 rfl rfl (.head _) rfl), (.tmp rfl), (.tmp rfl), trivial⟩ rfl (fun w1 hs => ?_)
      have hI0 : okI x = false := by grind
      have hq : pushQ cap ps x = ((0, []), false, 460) := by unfold pushQ; rw [if_neg (by rw [hR]; simp), if_pos hI0]
      exact end_fresh hs fun F2 _ _ _ => ⟨_, by rw [hq, hI0]; rfl, by rw [hq]; exact QV.nil⟩
    ·
      refine t_skip ?_
      refine k_then ?_
      refine t_seq ?_
      refine t_seq ?_
      refine bD mixed ?_
      refine r_seg 9 9 [] [0, 1, 2, 3, 4, 5, 6, 7, 8] (by kernel_rfl) ?_
      have hI : okI x = true := by grind
      have hV : validP ps = true := by grind [rightQ]
      have hob := octs_bd hV
      have hnl := hP.len
      have hsz : 84 ≤ x.sz ∧ x.sz ≤ 1542 := by grind [okI]
      refine s1 rfl (det_loadN tN73 rfl rfl (.tail _ (.tail _ (.head _))) rfl) rfl rfl trivial rfl ?_
      refine s1 rfl (det_build rfl (fun w => bld151_0 _ _ _ _ w)) rfl rfl trivial rfl ?_
      refine s1 rfl (det_call hb98 rfl rfl (fun w1 hs => oct_ok hs.know hP hnb hV)) rfl rfl trivial rfl ?_
      refine s1 rfl (det_fieldAddr fld55_3 rfl) rfl rfl trivial rfl ?_
      refine s1 rfl (det_load1 t1_3 rfl rfl (.tail _ (.head _)) rfl) rfl rfl trivial rfl ?_
      first | (refine s1 rfl (det_addI rfl rfl ?_) rfl rfl trivial rfl ?_; (· omega)) | refine s1 rfl (det_add rfl rfl) rfl rfl trivial rfl ?_
      refine s1 rfl (det_fieldAddr fld73_0 rfl) rfl rfl trivial rfl ?_
      refine s1 rfl (det_load1 t1_3 rfl rfl (.tail _ (.tail _ (.head _))) rfl) rfl rfl trivial rfl ?_
      refine s1 rfl (det_gtr rfl rfl) rfl rfl trivial rfl ?_
      refine sg_nil ?_
      refine be rfl ?_
      refine k_then ?_
      refine t_condP decide_eq_true_iff rfl (fun hb => ?_) (fun hb => ?_)
      ·
        refine t_seq ?_
        refine b0 ?_
        refine o1 rfl (det_loadN tN73 rfl rfl (.tail _ (.tail _ (.head _))) rfl) rfl rfl trivial ?_
        refine stN nofun rfl tN73 rfl rfl rfl .head rfl trivial rfl rfl ?_
        refine o1 rfl (det_assign rfl) rfl rfl trivial ?_
        refine o1 rfl (det_assign rfl) rfl rfl trivial ?_
        refine be rfl ?_
        refine k_then ?_
        refine t_ret (k_thenR (?_))
        refine ret_any (vs := [_, _, _]) rfl rfl ⟨(.cellN tN73 rfl rfl (.head _) rfl), (.tmp rfl), (.tmp rfl), trivial⟩ rfl (fun w1 hs => ?_)
        have hq : pushQ cap ps x = ((cap, ps), false, 0) := by unfold pushQ; rw [if_neg (by rw [hR]; simp), if_neg (by rw [hI]; simp), if_pos hb]
        exact end_fresh hs fun F2 h1 _ _ => ⟨_, by rw [hq]; rfl, by rw [hq]; exact QV.mk (hP.mono h1) hnc hcm⟩
      ·
        refine t_skip ?_
        refine k_then ?_
        refine t_seq ?_
        refine bD mixed ?_
        refine r_seg 15 12 [11] [0, 1, 2, 3, 4, 5, 6, 7, 8, 9, 10, 11] (by kernel_rfl) ?_
        refine s1 rfl (det_fieldAddr fld73_1 rfl) rfl rfl trivial rfl ?_
        refine s1 rfl (det_load1 t1_27 rfl rfl (.tail _ (.tail _ (.head _))) rfl) rfl rfl trivial rfl ?_
        refine s1 rfl (det_fieldAddr fld73_1 rfl) rfl rfl trivial rfl ?_
        refine s1 rfl (det_load1 t1_27 rfl rfl (.tail _ (.tail _ (.head _))) rfl) rfl rfl trivial rfl ?_
        refine s1 rfl (det_lenS sl27 rfl) rfl rfl trivial rfl ?_
        refine s1 rfl (det_fieldAddr fld73_1 rfl) rfl rfl trivial rfl ?_
        refine s1 rfl (det_load1 t1_27 rfl rfl (.tail _ (.tail _ (.head _))) rfl) rfl rfl trivial rfl ?_
        refine s1 rfl (det_lenS sl27 rfl) rfl rfl trivial rfl ?_
        refine s1 rfl (det_slice3 sl27 rfl rfl rfl hnc) rfl rfl trivial rfl ?_
        refine s1 rfl (det_loadN tN55 rfl rfl (.tail _ (.head _)) rfl) rfl rfl trivial rfl ?_
        refine s1 rfl (det_call hb87 rfl rfl (fun w1 hs => whole_ok hs.know)) rfl rfl trivial rfl ?_
        refine sm1 rfl (new_buildSlice rfl (fun w => bsl27_1_0 _ _ _ _ _ _ _ w)) rfl rfl trivial rfl (fun p42 => ?_)
        refine sg_nil ?_
        refine dm rfl (by kernel_rfl) (new_appK (xs := rowsV ptv ps) (news := ptv (whole x)) (n := n) (m := 1) ap27 rfl rfl (by rw [rowsV_len ptv_len, hP.len]) rfl (by decide) (fun w hs j u hj => by obtain ⟨b, hb, h⟩ := hP.flat ptv_len (by decide) j u hj; exact ⟨b, hb, hs.know _ _ h⟩) (fun w hs j u hj => hs.cellO (.head _) hj) (by omega) (by simp only [maxLen]; omega)) rfl rfl trivial (fun p43 v43 ob43 hS43 => ?_)
        obtain ⟨A1, c1, hv1, hn1, hm1, -⟩ := hS43.slice
        subst hv1
        have hS2 : SlO 57 7 (.slice A1 (n + 1) c1) (n + 1) (rowsV ptv (ps ++ [whole x])) [(p43, ob43)] := by rw [rowsV_app, rowsV_one]; exact hS43
        refine r_seg 15 14 [] [13] (by kernel_rfl) ?_
        refine s1 rfl (det_fieldAddr fld73_1 rfl) rfl rfl trivial rfl ?_
        refine sg_nil ?_
        refine st1 (fun _ => by kernel_rfl) rfl t1_27 rfl rfl rfl (.tail (.tail (.tail (.tail .head)))) rfl trivial rfl ?_
        refine be rfl ?_
        refine k_then ?_
        refine t_seq ?_
        refine b0 ?_
        refine o1 rfl (det_loadN tN73 rfl rfl (.tail _ (.tail _ (.tail _ (.tail _ (.head _))))) rfl) rfl rfl trivial ?_
        refine stN nofun rfl tN73 rfl rfl rfl (.tail (.tail .head)) rfl trivial rfl rfl ?_
        refine o1 rfl (det_assign rfl) rfl rfl trivial ?_
        refine o1 rfl (det_assign rfl) rfl rfl trivial ?_
        refine be rfl ?_
        refine k_then ?_
        refine t_ret ?_
        refine ret_any (vs := [_, _, _]) rfl rfl ⟨(.cellN tN73 rfl rfl (.tail _ (.tail _ (.head _))) rfl), (.tmp rfl), (.tmp rfl), trivial⟩ rfl (fun w1 hs => ?_)
        have hq : pushQ cap ps x = ((cap, ps ++ [whole x]), true, 0) := by unfold pushQ; rw [if_neg (by rw [hR]; simp), if_neg (by rw [hI]; simp), if_neg hb]
        exact end_fresh hs fun F2 h1 _ h3 => ⟨_, by rw [hq]; rfl, by rw [hq]; exact SlO.qv hS2 (fun p cs t fr k hm => h3 p cs t fr k (List.mem_cons.2 (.inl (List.mem_singleton.1 hm)))) rfl⟩
end Go.Proofs.Cp
