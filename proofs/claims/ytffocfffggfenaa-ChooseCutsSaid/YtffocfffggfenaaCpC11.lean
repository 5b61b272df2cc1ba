/-
  Walks through layers 36, 37 and 38 and their references.
-/
import Derived.Test.YtffocfffggfenaaCpC10
import Derived.Test.YtffocfffggfenaaChPlain7
namespace Go.Proofs.Cp
open Go Go.Eng Go.Gt Go.Proofs.Gt Go.Sw Go.Qu Go.Ch
set_option maxRecDepth 4000

theorem Fit_at {w : World} {F : Know} (hF : ∀ a v, F a = some v → w.cell? a = some v) {l : Ln} (hl : LnK F l) {cl t lg : Int} (hcl : 0 ≤ cl ∧ cl ≤ 7) : Pure Try.prog 64 [.agg (glv l.g).toArray, .int .i64 cl, .int .i64 t, .int .i64 lg] w (.tuple [.int .i64 (fitA l.g.es l.g.cyc cl t lg).1, .int .i64 (fitA l.g.es l.g.cyc cl t lg).2].toArray) := Fit_ok (cap := l.g.cap) hF hl cl (by omega) t lg
theorem rFit_at {w : World} {F : Know} (hF : ∀ a v, F a = some v → w.cell? a = some v) {l : Ln} (hl : LnK F l) {cl t lg : Int} (hcl : 0 ≤ cl ∧ cl ≤ 7) : Pure Try.prog 66 [.agg (glv l.g).toArray, .int .i64 cl, .int .i64 t, .int .i64 lg] w (.tuple [.int .i64 (fitA l.g.es l.g.cyc cl t lg).1, .int .i64 (fitA l.g.es l.g.cyc cl t lg).2].toArray) := rFit_ok (cap := l.g.cap) hF hl cl (by omega) t lg
/-- When's closure. -/
theorem when1_ok {w : World} {F : Know} (hF : ∀ a v, F a = some v → w.cell? a = some v) {l : Ln} (hl : LnK F l) {A : Option Addr} {n c : Nat} {hs0 : List Pt} (hP : PK F A n hs0)  (hL : okL l = true) (hH : okH hs0 = true) {t : Int} (ht : 0 ≤ t ∧ t ≤ 549755813888) {q1 q2 q3 : Nat} (h1 : ∀ j, j < 4 → F ((⟨q1, 0, none⟩ : Addr).add j) = (lnv l)[j]?) (h2 : F ⟨q2, 0, none⟩ = some (.int .i64 t)) (h3 : ∀ j, j < 5 → F ((⟨q3, 0, none⟩ : Addr).add j) = ([.slice l.g.A l.g.n l.g.cap, .int .i64 l.g.cyc, .int .i64 l.per, .int .i64 l.sh, .slice A n c] : List Value)[j]?) {cl : Int} (hcl : 0 ≤ cl ∧ cl ≤ 7) : Pure Try.prog 63 [.int .i64 cl, .pointer (some ⟨q1, 0, none⟩), .pointer (some ⟨q2, 0, none⟩), .pointer (some ⟨q3, 0, none⟩)] w (.tuple [.int .i64 (whenF l hs0 t cl).1, .int .i64 (whenF l hs0 t cl).2].toArray) := by
  have hLp := okL_parts hL
  have h8 := (okH_parts hH).1
  have hsh := hLp.2.2
  have hfb := fitA_rng (okL_parts hL).1 (cl := cl) (t := t + l.sh) (lg := longC l hs0 cl)
  refine fn_pure (F := F) Try.func63 rfl Try.ntmps63 rfl hF ?_
  refine t_seq ?_
  refine b0 ?_
  refine o1 rfl (det_assign rfl) rfl rfl trivial ?_
  refine o1 rfl (det_assign rfl) rfl rfl trivial ?_
  refine be rfl ?_
  refine k_then ?_
  refine t_seq ?_
  refine bD mixed ?_
  refine r_seg 16 16 [] [0, 1, 2, 3, 4, 5, 6, 7, 8, 9, 10, 11, 12, 13, 14, 15] (by kernel_rfl) ?_
  refine s1 rfl (det_fieldAddr fld26_0 rfl) rfl rfl trivial rfl ?_
  refine s1 rfl (det_loadKN tN24 rfl (glv_len l.g) (ln_cells h1)) rfl rfl trivial rfl ?_
  refine s1 rfl (det_move rfl) rfl rfl trivial rfl ?_
  refine s1 rfl (det_loadK t1_3 rfl h2) rfl rfl trivial rfl ?_
  refine s1 rfl (det_fieldAddr fld26_2 rfl) rfl rfl trivial rfl ?_
  refine s1 rfl (det_loadK t1_3 rfl (h1 3 (by decide))) rfl rfl trivial rfl ?_
  first | (refine s1 rfl (det_addI rfl rfl ?_) rfl rfl trivial rfl ?_; (· omega)) | refine s1 rfl (det_add rfl rfl) rfl rfl trivial rfl ?_
  refine s1 rfl (det_loadKN tN107 rfl rfl h3) rfl rfl trivial rfl ?_
  refine s1 rfl (det_move rfl) rfl rfl trivial rfl ?_
  refine s1 rfl (det_call hb65 rfl rfl (fun w1 hs => long_ok hs.know hP h8 hcl hLp.2.1 (okH_left hH hcl))) rfl rfl trivial rfl ?_
  refine s1 rfl (det_call hb64 rfl rfl (fun w1 hs => Fit_at hs.know hl hcl)) rfl rfl trivial rfl ?_
  refine s1 rfl (det_move rfl) rfl rfl trivial rfl ?_
  refine s1 rfl (det_extract rfl rfl) rfl rfl trivial rfl ?_
  refine s1 rfl (det_extract rfl rfl) rfl rfl trivial rfl ?_
  refine s1 rfl (det_assign rfl) rfl rfl trivial rfl ?_
  refine s1 rfl (det_assign rfl) rfl rfl trivial rfl ?_
  refine sg_nil ?_
  refine be rfl ?_
  refine k_then ?_
  refine t_seq ?_
  refine b0 ?_
  refine o1 rfl (det_move rfl) rfl rfl trivial ?_
  refine o1 rfl (det_fieldAddr fld26_2 rfl) rfl rfl trivial ?_
  refine o1 rfl (det_loadK t1_3 rfl (h1 3 (by decide))) rfl rfl trivial ?_
  first | (refine o1 rfl (det_subI rfl rfl ?_) rfl rfl trivial ?_; (· omega)) | refine o1 rfl (det_sub rfl rfl) rfl rfl trivial ?_
  refine o1 rfl (det_move rfl) rfl rfl trivial ?_
  refine o1 rfl (det_assign rfl) rfl rfl trivial ?_
  refine o1 rfl (det_assign rfl) rfl rfl trivial ?_
  refine be rfl ?_
  refine k_then ?_
  refine t_ret ?_
  refine ret_tmp2 rfl rfl rfl rfl (fun w1 hs => ?_)
  exact ⟨rfl, hs.keep⟩

/-- least. -/
theorem least_ok {w : World} {F : Know} (hF : ∀ a v, F a = some v → w.cell? a = some v) {l : Ln} (hl : LnK F l) {A : Option Addr} {n c : Nat} {hs0 : List Pt} (hP : PK F A n hs0)  (hL : okL l = true) (hH : okH hs0 = true) {t : Int} (ht : 0 ≤ t ∧ t ≤ 549755813888) {q q1 q2 q3 : Nat} (hq : (∀ j, j < 5 → F ((⟨q, 0, none⟩ : Addr).add j) = ([.slice l.g.A l.g.n l.g.cap, .int .i64 l.g.cyc, .int .i64 l.per, .int .i64 l.sh, .slice A n c] : List Value)[j]?)) (h1 : ∀ j, j < 4 → F ((⟨q1, 0, none⟩ : Addr).add j) = (lnv l)[j]?) (h2 : F ⟨q2, 0, none⟩ = some (.int .i64 t)) (h3 : ∀ j, j < 5 → F ((⟨q3, 0, none⟩ : Addr).add j) = ([.slice l.g.A l.g.n l.g.cap, .int .i64 l.g.cyc, .int .i64 l.per, .int .i64 l.sh, .slice A n c] : List Value)[j]?) : Pure Try.prog 62 [.func (.func 90) [].toArray [.pointer (some ⟨q, 0, none⟩)].toArray, .func (.func 63) [].toArray [.pointer (some ⟨q1, 0, none⟩), .pointer (some ⟨q2, 0, none⟩), .pointer (some ⟨q3, 0, none⟩)].toArray] w (.tuple [.int .i64 (orE (whenL l hs0 t)).1, .int .i64 (orE (whenL l hs0 t)).2].toArray) := by
  have h8 := (okH_parts hH).1
  refine fn_pure (F := F) Try.func62 rfl Try.ntmps62 rfl hF ?_
  refine t_seq ?_
  refine b0 ?_
  refine om1 rfl (new_box1 rfl rfl) rfl rfl trivial (fun p3 => ?_)
  refine o1 rfl (det_assign rfl) rfl rfl trivial ?_
  refine o1 rfl (det_assign rfl) rfl rfl trivial ?_
  refine be rfl ?_
  refine k_then ?_
  refine t_seq ?_
  refine b0 ?_
  refine om1 rfl (new_alloc z3) rfl rfl trivial (fun p6 => ?_)
  refine om1 rfl (new_alloc z31) rfl rfl trivial (fun p7 => ?_)
  refine st1 nofun rfl t1_3 rfl rfl rfl (.tail .head) rfl trivial rfl ?_
  refine st1 nofun rfl t1_31 rfl rfl rfl .head rfl trivial rfl ?_
  refine be rfl ?_
  refine k_then ?_
  refine t_seq ?_
  refine t_seq ?_
  refine b0 ?_
  refine o1 rfl (det_move rfl) rfl rfl trivial ?_
  refine be rfl ?_
  refine k_then ?_
  refine t_block ?_
  refine t_rangeF2 (σ := Option Int) (fun s => [(p7, .cells [.int .i64 (orE s).2].toArray 31 (0, 0)), (p6, .cells [.int .i64 (orE s).1].toArray 3 (0, 0)), (p3, .cells [.func (.func 63) [].toArray [.pointer (some ⟨q1, 0, none⟩), .pointer (some ⟨q2, 0, none⟩), .pointer (some ⟨q3, 0, none⟩)].toArray].toArray 118 (0, 0))]) (fun k s => s = lstK (whenXs l hs0 t) k) (fun _ s => False) none (fun k => [.int .i64 ((classL hs0).getD k 0)]) (xs := (classL hs0).map fun x => [Value.int .i64 x]) (env0 := [(3, _), (4, _), (5, _), (6, _), (7, _)]) rfl hb90 (class_gives hP h8 hq) (fun k hk => by rw [List.getElem_map]; rw [List.length_map] at hk; simp [hk]) (fun _ => rfl) rfl rfl ⟨rfl, rfl, rfl, rfl, rfl, trivial⟩ (.refl _) ?_ ?_ ?_
  ·
    rintro W2 S2 lp0 D r k s hr hk hI
    rw [List.length_map] at hk
    have hst := lstK_succ (xs := whenXs l hs0 t) (k := k) (by simpa [whenXs] using hk)
    rw [← hI, show (whenXs l hs0 t)[k]'(by simpa [whenXs] using hk) = whenF l hs0 t ((classL hs0).getD k 0) by simp [whenXs, hk]] at hst
    refine b0 ?_
    refine o1 rfl (det_assign rfl) rfl rfl trivial ?_
    refine be rfl ?_
    refine k_then ?_
    refine k_begin (pre := [_, _, _]) hr.1 rfl ?_
    refine t_block ?_
    refine t_seq ?_
    refine b0 ?_
    refine o1 rfl (det_load1 t1_118 rfl rfl (.tail _ (.tail _ (.head _))) rfl) rfl rfl trivial ?_
    refine o1 rfl (det_move rfl) rfl rfl trivial ?_
    refine o1 rfl (det_call hb63 rfl rfl (fun w1 hs => when1_ok hs.know hl hP hL hH ht h1 h2 h3 (class_at hk).1)) rfl rfl trivial ?_
    refine o1 rfl (det_move rfl) rfl rfl trivial ?_
    refine o1 rfl (det_extract rfl rfl) rfl rfl trivial ?_
    refine o1 rfl (det_extract rfl rfl) rfl rfl trivial ?_
    refine o1 rfl (det_assign rfl) rfl rfl trivial ?_
    refine o1 rfl (det_assign rfl) rfl rfl trivial ?_
    refine be rfl ?_
    refine k_then ?_
    refine t_seq ?_
    refine b0 ?_
    refine o1 rfl (det_move rfl) rfl rfl trivial ?_
    refine o1 rfl (det_eql rfl rfl) rfl rfl trivial ?_
    refine o2P beq_iff_eq rfl (det_move rfl) rfl rfl trivial (fun hb => ?_) (fun hb => ?_)
    ·
      refine o1 rfl (det_load1 t1_31 rfl rfl (.head _) rfl) rfl rfl ⟨_, rfl, rfl⟩ ?_
      refine o1 rfl (det_neq rfl rfl) rfl rfl ⟨_, rfl, rfl⟩ ?_
      refine o2P bne_iff_ne rfl (det_move rfl) rfl rfl ⟨_, rfl, rfl⟩ (fun hb => ?_) (fun hb => ?_)
      ·
        refine on rfl rfl rfl ⟨_, rfl, .inl rfl⟩ ?_
        refine on rfl rfl rfl ⟨_, rfl, .inl rfl⟩ ?_
        refine on rfl rfl rfl ⟨_, rfl, .inl rfl⟩ ?_
        refine o1 rfl (det_pickT rfl rfl) rfl rfl ⟨_, rfl, rfl⟩ ?_
        refine o1 rfl (det_pickT rfl rfl) rfl rfl trivial ?_
        refine be rfl ?_
        refine k_then ?_
        refine t_condT rfl ?_
        refine b0 ?_
        refine o1 rfl (det_move rfl) rfl rfl trivial ?_
        refine st1 nofun rfl t1_3 rfl rfl rfl (.tail .head) rfl trivial rfl ?_
        refine st1 nofun rfl t1_31 rfl rfl rfl .head rfl trivial rfl ?_
        refine be rfl ?_
        refine k_blk ?_
        first
        | exact round_next (some (whenF l hs0 t ((classL hs0).getD k 0)).1) hr (by rw [hst]; cases s <;> grind [minS, orE]) (.refl _) rfl rfl
        | exact round_next s hr (by rw [hst]; cases s <;> grind [minS, orE]) (.refl _) rfl rfl
      ·
        refine o1 rfl (det_move rfl) rfl rfl ⟨_, rfl, rfl⟩ ?_
        refine o1 rfl (det_load1 t1_3 rfl rfl (.tail _ (.head _)) rfl) rfl rfl ⟨_, rfl, rfl⟩ ?_
        refine o1 rfl (det_lss rfl rfl) rfl rfl ⟨_, rfl, rfl⟩ ?_
        refine o1 rfl (det_pickF rfl rfl) rfl rfl ⟨_, rfl, rfl⟩ ?_
        refine o1 rfl (det_pickT rfl rfl) rfl rfl trivial ?_
        refine be rfl ?_
        refine k_then ?_
        refine t_condP decide_eq_true_iff rfl (fun hb => ?_) (fun hb => ?_)
        ·
          --note:take
          refine b0 ?_
          refine o1 rfl (det_move rfl) rfl rfl trivial ?_
          refine st1 nofun rfl t1_3 rfl rfl rfl (.tail .head) rfl trivial rfl ?_
          refine st1 nofun rfl t1_31 rfl rfl rfl .head rfl trivial rfl ?_
          refine be rfl ?_
          refine k_blk ?_
          first
          | exact round_next (some (whenF l hs0 t ((classL hs0).getD k 0)).1) hr (by rw [hst]; cases s <;> grind [minS, orE]) (.refl _) rfl rfl
          | exact round_next s hr (by rw [hst]; cases s <;> grind [minS, orE]) (.refl _) rfl rfl
        ·
          skip
          refine t_skip ?_
          refine k_blk ?_
          first
          | exact round_next (some (whenF l hs0 t ((classL hs0).getD k 0)).1) hr (by rw [hst]; cases s <;> grind [minS, orE]) (.refl _) rfl rfl
          | exact round_next s hr (by rw [hst]; cases s <;> grind [minS, orE]) (.refl _) rfl rfl
    ·
      refine on rfl rfl rfl ⟨_, rfl, .inl rfl⟩ ?_
      refine on rfl rfl rfl ⟨_, rfl, .inl rfl⟩ ?_
      refine on rfl rfl rfl ⟨_, rfl, .inl rfl⟩ ?_
      refine on rfl rfl rfl ⟨_, rfl, .inr rfl⟩ ?_
      refine on rfl rfl rfl ⟨_, rfl, .inr rfl⟩ ?_
      refine on rfl rfl rfl ⟨_, rfl, .inr rfl⟩ ?_
      refine on rfl rfl rfl ⟨_, rfl, .inl rfl⟩ ?_
      refine o1 rfl (det_pickF rfl rfl) rfl rfl trivial ?_
      refine be rfl ?_
      refine k_then ?_
      refine t_condF rfl ?_
      refine t_skip ?_
      refine k_blk ?_
      first
      | exact round_next (some (whenF l hs0 t ((classL hs0).getD k 0)).1) hr (by rw [hst]; cases s <;> grind [minS, orE]) (.refl _) rfl rfl
      | exact round_next s hr (by rw [hst]; cases s <;> grind [minS, orE]) (.refl _) rfl rfl
  ·
    rintro D s hI
    rw [List.length_map] at hI
    have hI2 : s = whenL l hs0 t := by rw [hI, show (classL hs0).length = (whenXs l hs0 t).length by simp [whenXs]]; exact lstK_all
    refine k_blk ?_
    refine k_then ?_
    refine t_seq ?_
    refine bD mixed ?_
    refine r_seg 4 4 [] [0, 1, 2, 3] (by kernel_rfl) ?_
    refine s1 rfl (det_load1 t1_3 rfl rfl (.tail _ (.head _)) rfl) rfl rfl trivial rfl ?_
    refine s1 rfl (det_load1 t1_31 rfl rfl (.head _) rfl) rfl rfl trivial rfl ?_
    refine s1 rfl (det_assign rfl) rfl rfl trivial rfl ?_
    refine s1 rfl (det_assign rfl) rfl rfl trivial rfl ?_
    refine sg_nil ?_
    refine be rfl ?_
    refine k_then ?_
    refine t_ret ?_
    refine ret_mark (pre := [_, _, _]) (vs := [_, _]) rfl rfl ⟨(.tmp rfl), (.tmp rfl), trivial⟩ rfl (fun w1 hs => ?_)
    rw [← hI2]
    exact ⟨rfl, hs.keep⟩
  ·
    rintro D j s hX
    exact hX.elim

end Go.Proofs.Cp
