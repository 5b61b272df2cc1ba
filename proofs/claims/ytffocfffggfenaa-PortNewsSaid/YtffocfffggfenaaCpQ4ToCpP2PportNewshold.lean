/-
  The texts CpQ4 to CpP2, one after the other.
-/
import Derived.Test.YtffocfffggfenaaCpC3ToCpQ3PportNewshold
import Derived.Test.YtffocfffggfenaaGtPlainToPoPlain13PportNewshold
/-
  Walks through layers 36, 37 and 38 and their references.
-/
namespace Go.Proofs.Cp
open Go Go.Eng Go.Qu
set_option maxRecDepth 4000
theorem oct_ok {w : World} {F : Know} (hF : ∀ a v, F a = some v → w.cell? a = some v) {A : Option Addr} {n c : Nat} {cap : Int} {ps : List Pt} (hP : PK F A n ps) (hnb : n ≤ 65536) (hv : validP ps = true) : Pure Try.prog 98 [.agg [.int .i64 cap, .slice A n c].toArray] w (.int .i64 (octs ps)) := by
  refine fn_pure (F := F) Try.func98 rfl Try.ntmps98 rfl hF ?_
  refine t_seq ?_
  refine b0 ?_
  refine om1 rfl (new_boxN rfl) rfl rfl trivial (fun p1 => ?_)
  refine o1 rfl (det_assign rfl) rfl rfl trivial ?_
  refine be rfl ?_
  refine k_then ?_
  refine t_seq ?_
  refine b0 ?_
  refine o1 rfl (det_loadN tN151 rfl rfl (.head _) rfl) rfl rfl trivial ?_
  refine oF nofun rfl hb114 rfl rfl rfl trivial (fun w1 hs => (parts_ok hs.know).any) (fun v F1 hF1 hN1 ⟨p, hv1, h0, h1⟩ => ?_)
  subst hv1
  replace hP := hP.mono hF1
  have hlb : ∀ k, k < ps.length → 0 ≤ (atP ps k).left ∧ (atP ps k).left ≤ 65536 := fun k hk => by have := okP_bd (valid_bd hv hk); omega
  refine o1 rfl (det_call hb115 rfl rfl (fun w1 hs => sum_ok hs.know (parts_gives hP hnb h1) hlb (by rw [← hP.len]; exact hnb))) rfl rfl trivial ?_
  refine o1 rfl (det_assign rfl) rfl rfl trivial ?_
  refine be rfl ?_
  refine k_then ?_
  refine t_ret ?_
  refine ret_tmp rfl rfl rfl (fun w1 hs => ?_)
  exact ⟨rfl, hs.keep⟩
theorem qvalid_ok {w : World} {F : Know} (hF : ∀ a v, F a = some v → w.cell? a = some v) {A : Option Addr} {n c : Nat} {cap : Int} {ps : List Pt} (hP : PK F A n ps) (hnb : n ≤ 65536) : Pure Try.prog 97 [.agg [.int .i64 cap, .slice A n c].toArray] w (.bool (validP ps)) := by
  refine fn_pure (F := F) Try.func97 rfl Try.ntmps97 rfl hF ?_
  refine t_seq ?_
  refine b0 ?_
  refine om1 rfl (new_boxN rfl) rfl rfl trivial (fun p1 => ?_)
  refine o1 rfl (det_assign rfl) rfl rfl trivial ?_
  refine be rfl ?_
  refine k_then ?_
  refine t_scope0 ?_
  refine t_seq ?_
  refine b0 ?_
  refine om1 rfl (new_alloc z4) rfl rfl trivial (fun p3 => ?_)
  refine st1 nofun rfl t1_4 rfl rfl rfl .head rfl trivial rfl ?_
  refine be rfl ?_
  refine k_then ?_
  refine t_seq ?_
  refine t_label ?_
  refine k_then ?_
  refine t_seq ?_
  refine t_seq ?_
  refine b0 ?_
  refine o1 rfl (det_loadN tN151 rfl rfl (.tail _ (.head _)) rfl) rfl rfl trivial ?_
  refine oF nofun rfl hb114 rfl rfl rfl trivial (fun w1 hs => (parts_ok hs.know).any) (fun v F1 hF1 hN1 ⟨p, hv1, h0, h1⟩ => ?_)
  subst hv1
  replace hP := hP.mono hF1
  refine be rfl ?_
  refine k_then ?_
  refine t_block ?_
  refine t_rangeF (σ := Bool) (fun s => [(p3, .cells [.bool s].toArray 4 (0, 0))]) (fun k s => s = true ∧ ∀ i, i < k → okAt i (atP ps i) = true) (fun j s => j = .exit 0 ∧ s = false ∧ validP ps = false) true (fun k => [.int .i64 k, .agg (ptv (atP ps k)).toArray]) (xs := yldP ps) (env0 := [(2, _), (3, _)]) rfl hb120 (parts_gives hP hnb h1) (fun k hk => yldP_get hk) (fun _ => rfl) rfl ⟨rfl, fun i hi => absurd hi (Nat.not_lt_zero i)⟩ ⟨rfl, rfl, trivial⟩ (.cons_cons _ (.cons _ (.refl _))) ?_ ?_ ?_
  ·
    rintro l D r k s hr hk ⟨hs1, hI⟩
    rw [yldP_len] at hk
    subst hs1
    refine t_seq ?_
    refine b0 ?_
    refine o1 rfl (det_assign rfl) rfl rfl trivial ?_
    refine be rfl ?_
    refine k_then ?_
    refine b0 ?_
    refine om1 rfl (new_alloc z57) rfl rfl trivial (fun p5 => ?_)
    refine stN nofun rfl tN57 rfl rfl rfl .head rfl trivial rfl rfl ?_
    refine be rfl ?_
    refine k_then ?_
    refine k_begin (pre := [_, _]) hr.1 rfl ?_
    refine t_block ?_
    refine t_seq ?_
    refine b0 ?_
    refine o1 rfl (det_loadN tN57 rfl rfl (.head _) rfl) rfl rfl trivial ?_
    refine o1 rfl (det_call hb53 rfl rfl (fun w1 hs => cpart_ok hs.know)) rfl rfl trivial ?_
    refine o1 rfl (det_eql rfl rfl) rfl rfl trivial ?_
    refine o2P beq_iff_eq rfl (det_move rfl) rfl rfl trivial (fun hb => ?_) (fun hb => ?_)
    ·
      refine o1 rfl (det_move rfl) rfl rfl ⟨_, rfl, rfl⟩ ?_
      refine o1 rfl (det_eql rfl rfl) rfl rfl ⟨_, rfl, rfl⟩ ?_
      refine o2P beq_iff_eq rfl (det_move rfl) rfl rfl ⟨_, rfl, rfl⟩ (fun hb => ?_) (fun hb => ?_)
      ·
        refine on rfl rfl rfl ⟨_, rfl, .inl rfl⟩ ?_
        refine on rfl rfl rfl ⟨_, rfl, .inl rfl⟩ ?_
        refine on rfl rfl rfl ⟨_, rfl, .inl rfl⟩ ?_
        refine o1 rfl (det_pickT rfl rfl) rfl rfl ⟨_, rfl, rfl⟩ ?_
        refine o1 rfl (det_pickT rfl rfl) rfl rfl trivial ?_
        refine st1 nofun rfl t1_4 rfl rfl rfl (.tail .head) rfl trivial rfl ?_
        refine be rfl ?_
        refine k_then ?_
        refine t_seq ?_
        refine b0 ?_
        refine o1 rfl (det_load1 t1_4 rfl rfl (.tail _ (.head _)) rfl) rfl rfl trivial ?_
        refine o1 rfl (det_not rfl) rfl rfl trivial ?_
        refine be rfl ?_
        refine k_then ?_
        refine t_condP not_iff_false rfl (fun hb => ?_) (fun hb => ?_)
        ·
          refine t_exit ?_
          refine k_blkN (by decide) ?_
          cases hb
        ·
          refine t_skip ?_
          refine k_blk ?_
          refine round_next true hr ⟨rfl, fun i hi => by
              rcases Nat.lt_or_ge i k with h | h
              · exact hI i h
              · rw [show i = k by omega]; grind [okAt]⟩ (.cons _ (.refl _)) rfl rfl
      ·
        refine o1 rfl (det_fieldAddr fld57_2 rfl) rfl rfl ⟨_, rfl, rfl⟩ ?_
        refine o1 rfl (det_load1 t1_4 rfl rfl (.head _) rfl) rfl rfl ⟨_, rfl, rfl⟩ ?_
        refine o1 rfl (det_not rfl) rfl rfl ⟨_, rfl, rfl⟩ ?_
        refine o1 rfl (det_pickF rfl rfl) rfl rfl ⟨_, rfl, rfl⟩ ?_
        refine o1 rfl (det_pickT rfl rfl) rfl rfl trivial ?_
        refine st1 nofun rfl t1_4 rfl rfl rfl (.tail .head) rfl trivial rfl ?_
        refine be rfl ?_
        refine k_then ?_
        refine t_seq ?_
        refine b0 ?_
        refine o1 rfl (det_load1 t1_4 rfl rfl (.tail _ (.head _)) rfl) rfl rfl trivial ?_
        refine o1 rfl (det_not rfl) rfl rfl trivial ?_
        refine be rfl ?_
        refine k_then ?_
        refine t_condP not_iff_false rfl (fun hb => ?_) (fun hb => ?_)
        ·
          refine t_exit ?_
          refine k_blkN (by decide) ?_
          refine round_exit (!(atP ps k).rest) ⟨rfl, by simpa using hb, validP_false hk (by grind [okAt])⟩ (.cons _ (.refl _)) rfl rfl
        ·
          refine t_skip ?_
          refine k_blk ?_
          refine round_next (!(atP ps k).rest) hr ⟨by simpa using hb, fun i hi => by
              rcases Nat.lt_or_ge i k with h | h
              · exact hI i h
              · rw [show i = k by omega]; grind [okAt]⟩ (.cons _ (.refl _)) rfl rfl
    ·
      refine on rfl rfl rfl ⟨_, rfl, .inl rfl⟩ ?_
      refine on rfl rfl rfl ⟨_, rfl, .inl rfl⟩ ?_
      refine on rfl rfl rfl ⟨_, rfl, .inl rfl⟩ ?_
      refine on rfl rfl rfl ⟨_, rfl, .inr rfl⟩ ?_
      refine on rfl rfl rfl ⟨_, rfl, .inr rfl⟩ ?_
      refine on rfl rfl rfl ⟨_, rfl, .inr rfl⟩ ?_
      refine on rfl rfl rfl ⟨_, rfl, .inl rfl⟩ ?_
      refine o1 rfl (det_pickF rfl rfl) rfl rfl trivial ?_
      refine st1 nofun rfl t1_4 rfl rfl rfl (.tail .head) rfl trivial rfl ?_
      refine be rfl ?_
      refine k_then ?_
      refine t_seq ?_
      refine b0 ?_
      refine o1 rfl (det_load1 t1_4 rfl rfl (.tail _ (.head _)) rfl) rfl rfl trivial ?_
      refine o1 rfl (det_not rfl) rfl rfl trivial ?_
      refine be rfl ?_
      refine k_then ?_
      refine t_condP not_iff_false rfl (fun hb => ?_) (fun hb => ?_)
      ·
        refine t_exit ?_
        refine k_blkN (by decide) ?_
        refine round_exit false ⟨rfl, rfl, validP_false hk (by grind [okAt])⟩ (.cons _ (.refl _)) rfl rfl
      ·
        refine t_skip ?_
        refine k_blk ?_
        exact absurd rfl hb
  ·
    rintro D s ⟨hs1, hI⟩
    rw [yldP_len] at hI
    subst hs1
    refine k_blk ?_
    refine k_then ?_
    refine t_seq ?_
    refine b0 ?_
    refine o1 rfl (det_load1 t1_4 rfl rfl (.head _) rfl) rfl rfl trivial ?_
    refine o1 rfl (det_assign rfl) rfl rfl trivial ?_
    refine be rfl ?_
    refine k_then ?_
    refine t_ret (k_nogR (?_))
    refine ret_mark (pre := [_]) (vs := [_]) rfl rfl ⟨(.tmp rfl), trivial⟩ rfl (fun w1 hs => ?_)
    exact ⟨by rw [validP_iff.2 hI]; rfl, hs.keep⟩
  ·
    rintro D j s ⟨hj, hs1, hI⟩
    subst hj
    subst hs1
    refine t_exit ?_
    refine k_blkE ?_
    refine k_then ?_
    refine t_seq ?_
    refine b0 ?_
    refine o1 rfl (det_load1 t1_4 rfl rfl (.head _) rfl) rfl rfl trivial ?_
    refine o1 rfl (det_assign rfl) rfl rfl trivial ?_
    refine be rfl ?_
    refine k_then ?_
    refine t_ret (k_nogR (?_))
    refine ret_mark (pre := [_]) (vs := [_]) rfl rfl ⟨(.tmp rfl), trivial⟩ rfl (fun w1 hs => ?_)
    exact ⟨by rw [hI]; rfl, hs.keep⟩
end Go.Proofs.Cp

/-
  Walks through layers 36, 37 and 38 and their references.
-/
namespace Go.Proofs.Cp
open Go Go.Eng Go.Qu
set_option maxRecDepth 4000
theorem qcheck_ok {w : World} {F : Know} (hF : ∀ a v, F a = some v → w.cell? a = some v) {A : Option Addr} {n c : Nat} {cap : Int} {ps : List Pt} (hP : PK F A n ps) (hnb : n ≤ 65536) : Pure Try.prog 73 [.agg [.int .i64 cap, .slice A n c].toArray] w (.int .i64 (if rightQ cap ps then 0 else 461)) := by
  refine fn_pure (F := F) Try.func73 rfl Try.ntmps73 rfl hF ?_
  refine t_seq ?_
  refine b0 ?_
  refine om1 rfl (new_boxN rfl) rfl rfl trivial (fun p1 => ?_)
  refine o1 rfl (det_assign rfl) rfl rfl trivial ?_
  refine be rfl ?_
  refine k_then ?_
  refine t_seq ?_
  refine b0 ?_
  refine o1 rfl (det_loadN tN73 rfl rfl (.head _) rfl) rfl rfl trivial ?_
  refine o1 rfl (det_build rfl (fun w => bld151_0 _ _ _ _ w)) rfl rfl trivial ?_
  refine om1 rfl (new_alloc z151) rfl rfl trivial (fun p3 => ?_)
  refine stN nofun rfl tN151 rfl rfl rfl .head rfl trivial rfl rfl ?_
  refine be rfl ?_
  refine k_then ?_
  refine t_seq ?_
  refine b0 ?_
  refine o1 rfl (det_loadN tN151 rfl rfl (.head _) rfl) rfl rfl trivial ?_
  refine o1 rfl (det_makeFunc rfl rfl) rfl rfl trivial ?_
  refine o1 rfl (det_assign rfl) rfl rfl trivial ?_
  refine be rfl ?_
  refine k_then ?_
  refine t_seq ?_
  refine t_seq ?_
  refine b0 ?_
  refine o1 rfl (det_fieldAddr fld73_0 rfl) rfl rfl trivial ?_
  refine o1 rfl (det_load1 t1_3 rfl rfl (.tail _ (.head _)) rfl) rfl rfl trivial ?_
  refine o1 rfl (det_call hb88 rfl rfl (fun w1 hs => within_ok hs.know)) rfl rfl trivial ?_
  refine o1 rfl (det_not rfl) rfl rfl trivial ?_
  refine o2P not_iff_false rfl (det_move rfl) rfl rfl trivial (fun hb => ?_) (fun hb => ?_)
  ·
    refine on rfl rfl rfl ⟨_, rfl, .inl rfl⟩ ?_
    refine on rfl rfl rfl ⟨_, rfl, .inl rfl⟩ ?_
    refine on rfl rfl rfl ⟨_, rfl, .inl rfl⟩ ?_
    refine o1 rfl (det_pickT rfl rfl) rfl rfl trivial ?_
    refine be rfl ?_
    refine k_then ?_
    refine t_condT rfl ?_
    refine t_seq ?_
    refine b0 ?_
    refine o1 rfl (det_assign rfl) rfl rfl trivial ?_
    refine be rfl ?_
    refine k_then ?_
    refine t_ret (k_thenR (?_))
    refine ret_tmp rfl rfl rfl (fun w1 hs => ?_)
    first | exact ⟨rfl, hs.keep⟩ | exact ⟨by grind [rightQ, fullO, restQ], hs.keep⟩
  ·
    refine o1 rfl (det_move rfl) rfl rfl ⟨_, rfl, rfl⟩ ?_
    refine o1 rfl (det_call hb97 rfl rfl (fun w1 hs => qvalid_ok hs.know hP hnb)) rfl rfl ⟨_, rfl, rfl⟩ ?_
    refine o1 rfl (det_not rfl) rfl rfl ⟨_, rfl, rfl⟩ ?_
    refine o1 rfl (det_pickF rfl rfl) rfl rfl trivial ?_
    refine be rfl ?_
    refine k_then ?_
    refine t_condP not_iff_false rfl (fun hb => ?_) (fun hb => ?_)
    ·
      refine t_seq ?_
      refine b0 ?_
      refine o1 rfl (det_assign rfl) rfl rfl trivial ?_
      refine be rfl ?_
      refine k_then ?_
      refine t_ret (k_thenR (?_))
      refine ret_tmp rfl rfl rfl (fun w1 hs => ?_)
      first | exact ⟨rfl, hs.keep⟩ | exact ⟨by grind [rightQ, fullO, restQ], hs.keep⟩
    ·
      refine t_skip ?_
      refine k_then ?_
      refine t_seq ?_
      refine b0 ?_
      have hV : validP ps = true := by grind
      have hob := octs_bd hV
      have hnl := hP.len
      refine o1 rfl (det_loadN tN151 rfl rfl (.head _) rfl) rfl rfl trivial ?_
      refine o1 rfl (det_call hb98 rfl rfl (fun w1 hs => oct_ok hs.know hP hnb hV)) rfl rfl trivial ?_
      refine o1 rfl (det_assign rfl) rfl rfl trivial ?_
      refine be rfl ?_
      refine k_then ?_
      refine t_seq ?_
      refine t_seq ?_
      refine b0 ?_
      refine o1 rfl (det_fieldAddr fld73_1 rfl) rfl rfl trivial ?_
      refine o1 rfl (det_load1 t1_27 rfl rfl (.tail _ (.head _)) rfl) rfl rfl trivial ?_
      refine o1 rfl (det_lenS sl27 rfl) rfl rfl trivial ?_
      refine o1 rfl (det_gtr rfl rfl) rfl rfl trivial ?_
      refine o2P decide_eq_true_iff rfl (det_move rfl) rfl rfl trivial (fun hb => ?_) (fun hb => ?_)
      ·
        have hnl := hP.len
        have hlt0 : 0 < ps.length := by omega
        obtain ⟨A, rfl⟩ := hP.some hlt0
        have hat0 := atP_get hlt0
        have hhd := head_bd hV hlt0
        rw [hat0] at hhd
        refine o1 rfl (det_fieldAddr fld73_1 rfl) rfl rfl ⟨_, rfl, rfl⟩ ?_
        refine o1 rfl (det_load1 t1_27 rfl rfl (.tail _ (.head _)) rfl) rfl rfl ⟨_, rfl, rfl⟩ ?_
        first | (refine o1 rfl (det_indexAddr sl27 rfl rfl ?_) rfl rfl ⟨_, rfl, rfl⟩ ?_; (· (first | decide | omega)))
        refine o1 rfl (det_fieldAddr fld57_2 rfl) rfl rfl ⟨_, rfl, rfl⟩ ?_
        refine o1 rfl (det_loadK t1_4 rfl (hP.cell (i := 0) (k := 0) (j := 6) (u := .bool ps[0].rest) rfl hlt0 rfl)) rfl rfl ⟨_, rfl, rfl⟩ ?_
        refine o1 rfl (det_pickT rfl rfl) rfl rfl trivial ?_
        refine be rfl ?_
        refine k_then ?_
        refine t_condP Iff.rfl rfl (fun hb => ?_) (fun hb => ?_)
        ·
          refine b0 ?_
          refine o1 rfl (det_move rfl) rfl rfl trivial ?_
          refine o1 rfl (det_fieldAddr fld73_1 rfl) rfl rfl trivial ?_
          refine o1 rfl (det_load1 t1_27 rfl rfl (.tail _ (.head _)) rfl) rfl rfl trivial ?_
          first | (refine o1 rfl (det_indexAddr sl27 rfl rfl ?_) rfl rfl trivial ?_; (· (first | decide | omega)))
          refine o1 rfl (det_fieldAddr fld57_1 rfl) rfl rfl trivial ?_
          refine o1 rfl (det_loadK t1_3 rfl (hP.cell (i := 0) (k := 0) (j := 5) (u := .int .i64 ps[0].left) rfl hlt0 rfl)) rfl rfl trivial ?_
          first | (refine o1 rfl (det_subI rfl rfl ?_) rfl rfl trivial ?_; (· omega)) | refine o1 rfl (det_sub rfl rfl) rfl rfl trivial ?_
          refine o1 rfl (det_assign rfl) rfl rfl trivial ?_
          refine be rfl ?_
          refine k_then ?_
          refine t_seq ?_
          refine t_seq ?_
          refine b0 ?_
          refine o1 rfl (det_move rfl) rfl rfl trivial ?_
          refine o1 rfl (det_fieldAddr fld73_0 rfl) rfl rfl trivial ?_
          refine o1 rfl (det_load1 t1_3 rfl rfl (.tail _ (.head _)) rfl) rfl rfl trivial ?_
          refine o1 rfl (det_gtr rfl rfl) rfl rfl trivial ?_
          refine be rfl ?_
          refine k_then ?_
          refine t_condP decide_eq_true_iff rfl (fun hb => ?_) (fun hb => ?_)
          ·
            refine t_seq ?_
            refine b0 ?_
            refine o1 rfl (det_assign rfl) rfl rfl trivial ?_
            refine be rfl ?_
            refine k_then ?_
            refine t_ret (k_thenR (?_))
            refine ret_tmp rfl rfl rfl (fun w1 hs => ?_)
            first | exact ⟨rfl, hs.keep⟩ | exact ⟨by grind [rightQ, fullO, restQ], hs.keep⟩
          ·
            refine t_skip ?_
            refine k_then ?_
            refine t_seq ?_
            refine b0 ?_
            refine o1 rfl (det_assign rfl) rfl rfl trivial ?_
            refine be rfl ?_
            refine k_then ?_
            refine t_ret ?_
            refine ret_tmp rfl rfl rfl (fun w1 hs => ?_)
            first | exact ⟨rfl, hs.keep⟩ | exact ⟨by grind [rightQ, fullO, restQ], hs.keep⟩
        ·
          refine t_skip ?_
          refine k_then ?_
          refine t_seq ?_
          refine t_seq ?_
          refine b0 ?_
          refine o1 rfl (det_move rfl) rfl rfl trivial ?_
          refine o1 rfl (det_fieldAddr fld73_0 rfl) rfl rfl trivial ?_
          refine o1 rfl (det_load1 t1_3 rfl rfl (.tail _ (.head _)) rfl) rfl rfl trivial ?_
          refine o1 rfl (det_gtr rfl rfl) rfl rfl trivial ?_
          refine be rfl ?_
          refine k_then ?_
          refine t_condP decide_eq_true_iff rfl (fun hb => ?_) (fun hb => ?_)
          ·
            refine t_seq ?_
            refine b0 ?_
            refine o1 rfl (det_assign rfl) rfl rfl trivial ?_
            refine be rfl ?_
            refine k_then ?_
            refine t_ret (k_thenR (?_))
            refine ret_tmp rfl rfl rfl (fun w1 hs => ?_)
            first | exact ⟨rfl, hs.keep⟩ | exact ⟨by grind [rightQ, fullO, restQ], hs.keep⟩
          ·
            refine t_skip ?_
            refine k_then ?_
            refine t_seq ?_
            refine b0 ?_
            refine o1 rfl (det_assign rfl) rfl rfl trivial ?_
            refine be rfl ?_
            refine k_then ?_
            refine t_ret ?_
            refine ret_tmp rfl rfl rfl (fun w1 hs => ?_)
            first | exact ⟨rfl, hs.keep⟩ | exact ⟨by grind [rightQ, fullO, restQ], hs.keep⟩
      ·
        refine on rfl rfl rfl ⟨_, rfl, .inl rfl⟩ ?_
        refine on rfl rfl rfl ⟨_, rfl, .inl rfl⟩ ?_
        refine on rfl rfl rfl ⟨_, rfl, .inl rfl⟩ ?_
        refine on rfl rfl rfl ⟨_, rfl, .inl rfl⟩ ?_
        refine on rfl rfl rfl ⟨_, rfl, .inl rfl⟩ ?_
        refine o1 rfl (det_pickF rfl rfl) rfl rfl trivial ?_
        refine be rfl ?_
        refine k_then ?_
        refine t_condF rfl ?_
        refine t_skip ?_
        refine k_then ?_
        refine t_seq ?_
        refine t_seq ?_
        refine b0 ?_
        refine o1 rfl (det_move rfl) rfl rfl trivial ?_
        refine o1 rfl (det_fieldAddr fld73_0 rfl) rfl rfl trivial ?_
        refine o1 rfl (det_load1 t1_3 rfl rfl (.tail _ (.head _)) rfl) rfl rfl trivial ?_
        refine o1 rfl (det_gtr rfl rfl) rfl rfl trivial ?_
        refine be rfl ?_
        refine k_then ?_
        refine t_condP decide_eq_true_iff rfl (fun hb => ?_) (fun hb => ?_)
        ·
          refine t_seq ?_
          refine b0 ?_
          refine o1 rfl (det_assign rfl) rfl rfl trivial ?_
          refine be rfl ?_
          refine k_then ?_
          refine t_ret (k_thenR (?_))
          refine ret_tmp rfl rfl rfl (fun w1 hs => ?_)
          first | exact ⟨rfl, hs.keep⟩ | exact ⟨by grind [rightQ, fullO, restQ], hs.keep⟩
        ·
          refine t_skip ?_
          refine k_then ?_
          refine t_seq ?_
          refine b0 ?_
          refine o1 rfl (det_assign rfl) rfl rfl trivial ?_
          refine be rfl ?_
          refine k_then ?_
          refine t_ret ?_
          refine ret_tmp rfl rfl rfl (fun w1 hs => ?_)
          first | exact ⟨rfl, hs.keep⟩ | exact ⟨by grind [rightQ, fullO, restQ], hs.keep⟩
theorem qnew_ok {w : World} {F : Know} (hF : ∀ a v, F a = some v → w.cell? a = some v) {cap : Int} : Pure Try.prog 69 [.int .i64 cap] w (.tuple [.agg [.int .i64 (if 0 ≤ cap ∧ cap ≤ 65536 then cap else 0), .slice none 0 0].toArray, .int .i64 (if 0 ≤ cap ∧ cap ≤ 65536 then 0 else 2)].toArray) := by
  refine fn_pure (F := F) Try.func69 rfl Try.ntmps69 rfl hF ?_
  refine t_seq ?_
  refine b0 ?_
  refine om1 rfl (new_alloc z73) rfl rfl trivial (fun p2 => ?_)
  refine o1 rfl (det_assign rfl) rfl rfl trivial ?_
  refine be rfl ?_
  refine k_then ?_
  refine t_seq ?_
  refine t_seq ?_
  refine b0 ?_
  refine o1 rfl (det_move rfl) rfl rfl trivial ?_
  refine o1 rfl (det_call hb88 rfl rfl (fun w1 hs => within_ok hs.know)) rfl rfl trivial ?_
  refine o1 rfl (det_not rfl) rfl rfl trivial ?_
  refine be rfl ?_
  refine k_then ?_
  refine t_condP not_iff_false rfl (fun hb => ?_) (fun hb => ?_)
  ·
    refine t_seq ?_
    refine b0 ?_
    refine o1 rfl (det_build rfl (fun w => bld73_ w)) rfl rfl trivial ?_
    refine stN nofun rfl tN73 rfl rfl rfl .head rfl trivial rfl rfl ?_
    refine o1 rfl (det_assign rfl) rfl rfl trivial ?_
    refine be rfl ?_
    refine k_then ?_
    refine t_ret (k_thenR (?_))
    refine ret_any (vs := [_, _]) rfl rfl ⟨(.cellN tN73 rfl rfl (.head _) rfl), (.tmp rfl), trivial⟩ rfl (fun w1 hs => ?_)
    exact ⟨by grind [pack], hs.keep⟩
  ·
    refine t_skip ?_
    refine k_then ?_
    refine t_seq ?_
    refine b0 ?_
    refine o1 rfl (det_move rfl) rfl rfl trivial ?_
    refine o1 rfl (det_build rfl (fun w => bld73_0 _ w)) rfl rfl trivial ?_
    refine stN nofun rfl tN73 rfl rfl rfl .head rfl trivial rfl rfl ?_
    refine o1 rfl (det_assign rfl) rfl rfl trivial ?_
    refine be rfl ?_
    refine k_then ?_
    refine t_ret ?_
    refine ret_any (vs := [_, _]) rfl rfl ⟨(.cellN tN73 rfl rfl (.head _) rfl), (.tmp rfl), trivial⟩ rfl (fun w1 hs => ?_)
    exact ⟨by grind [pack], hs.keep⟩
end Go.Proofs.Cp

/-
  Walks through layers 36, 37 and 38 and their references.
-/
namespace Go.Proofs.Cp
open Go Go.Eng Go.Qu
set_option maxRecDepth 4000
theorem push_ok {w : World} {F : Know} (hF : ∀ a v, F a = some v → w.cell? a = some v) {A : Option Addr} {n c : Nat} {cap : Int} {ps : List Pt} (hP : PK F A n ps) (hnb : n ≤ 65536) (hnc : n ≤ c) (hcm : c ≤ maxLen) {x : It} : CallsF Try.prog 105 [.agg [.int .i64 cap, .slice A n c].toArray, .agg [.int .i64 x.st, .int .i64 x.sq, .int .i64 x.cl, .int .i64 x.sz, .int .i64 x.sn].toArray] w F (fun v F2 => ∃ q, v = .tuple [q, .bool (pushQ cap ps x).2.1, .int .i64 (pushQ cap ps x).2.2].toArray ∧ QV F2 q (pushQ cap ps x).1.1 (pushQ cap ps x).1.2) := by
  refine fn_fresh (F := F) Try.func105 rfl Try.ntmps105 rfl hF ?_
  refine t_seq ?_
  refine b0 ?_
  refine om1 rfl (new_boxN rfl) rfl rfl trivial (fun p2 => ?_)
  refine om1 rfl (new_boxN rfl) rfl rfl trivial (fun p3 => ?_)
  refine om1 rfl (new_alloc z73) rfl rfl trivial (fun p4 => ?_)
  refine o1 rfl (det_assign rfl) rfl rfl trivial ?_
  refine o1 rfl (det_assign rfl) rfl rfl trivial ?_
  refine be rfl ?_
  refine k_then ?_
  refine t_seq ?_
  refine t_seq ?_
  refine b0 ?_
  refine o1 rfl (det_loadN tN73 rfl rfl (.tail _ (.tail _ (.head _))) rfl) rfl rfl trivial ?_
  refine o1 rfl (det_call hb73 rfl rfl (fun w1 hs => qcheck_ok hs.know hP hnb)) rfl rfl trivial ?_
  refine o1 rfl (det_assign rfl) rfl rfl trivial ?_
  refine be rfl ?_
  refine k_then ?_
  refine t_seq ?_
  refine b0 ?_
  refine o1 rfl (det_move rfl) rfl rfl trivial ?_
  refine o1 rfl (det_neq rfl rfl) rfl rfl trivial ?_
  refine be rfl ?_
  refine k_then ?_
  refine t_condP bne_iff_ne rfl (fun hb => ?_) (fun hb => ?_)
  ·
    refine t_seq ?_
    refine b0 ?_
    refine o1 rfl (det_build rfl (fun w => bld73_ w)) rfl rfl trivial ?_
    refine o1 rfl (det_move rfl) rfl rfl trivial ?_
    refine stN nofun rfl tN73 rfl rfl rfl .head rfl trivial rfl rfl ?_
    refine o1 rfl (det_assign rfl) rfl rfl trivial ?_
    refine o1 rfl (det_assign rfl) rfl rfl trivial ?_
    refine be rfl ?_
    refine k_then ?_
    refine t_ret (k_thenR (?_))
    refine ret_any (vs := [_, _, _]) rfl rfl ⟨(.cellN tN73 rfl rfl (.head _) rfl), (.tmp rfl), (.tmp rfl), trivial⟩ rfl (fun w1 hs => ?_)
    have hR0 : rightQ cap ps = false := by grind
    have hq : pushQ cap ps x = ((0, []), false, 461) := by unfold pushQ; rw [if_pos hR0]
    exact end_fresh hs fun F2 _ _ _ => ⟨_, by rw [hq, hR0]; rfl, by rw [hq]; exact QV.nil⟩
  ·
    refine t_skip ?_
    refine k_then ?_
    refine t_seq ?_
    refine t_seq ?_
    refine b0 ?_
    have hR : rightQ cap ps = true := by grind
    refine o1 rfl (det_loadN tN55 rfl rfl (.tail _ (.head _)) rfl) rfl rfl trivial ?_
    refine o1 rfl (det_call hb77 rfl rfl (fun w1 hs => citem_ok hs.know)) rfl rfl trivial ?_
    refine o1 rfl (det_assign rfl) rfl rfl trivial ?_
    refine be rfl ?_
    refine k_then ?_
    refine t_seq ?_
    refine b0 ?_
    refine o1 rfl (det_move rfl) rfl rfl trivial ?_
    refine o1 rfl (det_neq rfl rfl) rfl rfl trivial ?_
    refine be rfl ?_
    refine k_then ?_
    refine t_condP bne_iff_ne rfl (fun hb => ?_) (fun hb => ?_)
    ·
      refine t_seq ?_
      refine b0 ?_
      refine o1 rfl (det_build rfl (fun w => bld73_ w)) rfl rfl trivial ?_
      refine o1 rfl (det_move rfl) rfl rfl trivial ?_
      refine stN nofun rfl tN73 rfl rfl rfl .head rfl trivial rfl rfl ?_
      refine o1 rfl (det_assign rfl) rfl rfl trivial ?_
      refine o1 rfl (det_assign rfl) rfl rfl trivial ?_
      refine be rfl ?_
      refine k_then ?_
      refine t_ret (k_thenR (?_))
      refine ret_any (vs := [_, _, _]) rfl rfl ⟨(.cellN tN73 rfl rfl (.head _) rfl), (.tmp rfl), (.tmp rfl), trivial⟩ rfl (fun w1 hs => ?_)
      have hI0 : okI x = false := by grind
      have hq : pushQ cap ps x = ((0, []), false, 460) := by unfold pushQ; rw [if_neg (by rw [hR]; simp), if_pos hI0]
      exact end_fresh hs fun F2 _ _ _ => ⟨_, by rw [hq, hI0]; rfl, by rw [hq]; exact QV.nil⟩
    ·
      refine t_skip ?_
      refine k_then ?_
      refine t_seq ?_
      refine t_seq ?_
      refine bD mixed ?_
      refine r_seg 9 9 [] [0, 1, 2, 3, 4, 5, 6, 7, 8] (by kernel_rfl) ?_
      have hI : okI x = true := by grind
      have hV : validP ps = true := by grind [rightQ]
      have hob := octs_bd hV
      have hnl := hP.len
      have hsz : 84 ≤ x.sz ∧ x.sz ≤ 1542 := by grind [okI]
      refine s1 rfl (det_loadN tN73 rfl rfl (.tail _ (.tail _ (.head _))) rfl) rfl rfl trivial rfl ?_
      refine s1 rfl (det_build rfl (fun w => bld151_0 _ _ _ _ w)) rfl rfl trivial rfl ?_
      refine s1 rfl (det_call hb98 rfl rfl (fun w1 hs => oct_ok hs.know hP hnb hV)) rfl rfl trivial rfl ?_
      refine s1 rfl (det_fieldAddr fld55_3 rfl) rfl rfl trivial rfl ?_
      refine s1 rfl (det_load1 t1_3 rfl rfl (.tail _ (.head _)) rfl) rfl rfl trivial rfl ?_
      first | (refine s1 rfl (det_addI rfl rfl ?_) rfl rfl trivial rfl ?_; (· omega)) | refine s1 rfl (det_add rfl rfl) rfl rfl trivial rfl ?_
      refine s1 rfl (det_fieldAddr fld73_0 rfl) rfl rfl trivial rfl ?_
      refine s1 rfl (det_load1 t1_3 rfl rfl (.tail _ (.tail _ (.head _))) rfl) rfl rfl trivial rfl ?_
      refine s1 rfl (det_gtr rfl rfl) rfl rfl trivial rfl ?_
      refine sg_nil ?_
      refine be rfl ?_
      refine k_then ?_
      refine t_condP decide_eq_true_iff rfl (fun hb => ?_) (fun hb => ?_)
      ·
        refine t_seq ?_
        refine b0 ?_
        refine o1 rfl (det_loadN tN73 rfl rfl (.tail _ (.tail _ (.head _))) rfl) rfl rfl trivial ?_
        refine stN nofun rfl tN73 rfl rfl rfl .head rfl trivial rfl rfl ?_
        refine o1 rfl (det_assign rfl) rfl rfl trivial ?_
        refine o1 rfl (det_assign rfl) rfl rfl trivial ?_
        refine be rfl ?_
        refine k_then ?_
        refine t_ret (k_thenR (?_))
        refine ret_any (vs := [_, _, _]) rfl rfl ⟨(.cellN tN73 rfl rfl (.head _) rfl), (.tmp rfl), (.tmp rfl), trivial⟩ rfl (fun w1 hs => ?_)
        have hq : pushQ cap ps x = ((cap, ps), false, 0) := by unfold pushQ; rw [if_neg (by rw [hR]; simp), if_neg (by rw [hI]; simp), if_pos hb]
        exact end_fresh hs fun F2 h1 _ _ => ⟨_, by rw [hq]; rfl, by rw [hq]; exact QV.mk (hP.mono h1) hnc hcm⟩
      ·
        refine t_skip ?_
        refine k_then ?_
        refine t_seq ?_
        refine bD mixed ?_
        refine r_seg 15 12 [11] [0, 1, 2, 3, 4, 5, 6, 7, 8, 9, 10, 11] (by kernel_rfl) ?_
        refine s1 rfl (det_fieldAddr fld73_1 rfl) rfl rfl trivial rfl ?_
        refine s1 rfl (det_load1 t1_27 rfl rfl (.tail _ (.tail _ (.head _))) rfl) rfl rfl trivial rfl ?_
        refine s1 rfl (det_fieldAddr fld73_1 rfl) rfl rfl trivial rfl ?_
        refine s1 rfl (det_load1 t1_27 rfl rfl (.tail _ (.tail _ (.head _))) rfl) rfl rfl trivial rfl ?_
        refine s1 rfl (det_lenS sl27 rfl) rfl rfl trivial rfl ?_
        refine s1 rfl (det_fieldAddr fld73_1 rfl) rfl rfl trivial rfl ?_
        refine s1 rfl (det_load1 t1_27 rfl rfl (.tail _ (.tail _ (.head _))) rfl) rfl rfl trivial rfl ?_
        refine s1 rfl (det_lenS sl27 rfl) rfl rfl trivial rfl ?_
        refine s1 rfl (det_slice3 sl27 rfl rfl rfl hnc) rfl rfl trivial rfl ?_
        refine s1 rfl (det_loadN tN55 rfl rfl (.tail _ (.head _)) rfl) rfl rfl trivial rfl ?_
        refine s1 rfl (det_call hb87 rfl rfl (fun w1 hs => whole_ok hs.know)) rfl rfl trivial rfl ?_
        refine sm1 rfl (new_buildSlice rfl (fun w => bsl27_1_0 _ _ _ _ _ _ _ w)) rfl rfl trivial rfl (fun p42 => ?_)
        refine sg_nil ?_
        refine dm rfl (by kernel_rfl) (new_appK (xs := rowsV ptv ps) (news := ptv (whole x)) (n := n) (m := 1) ap27 rfl rfl (by rw [rowsV_len ptv_len, hP.len]) rfl (by decide) (fun w hs j u hj => by obtain ⟨b, hb, h⟩ := hP.flat ptv_len (by decide) j u hj; exact ⟨b, hb, hs.know _ _ h⟩) (fun w hs j u hj => hs.cellO (.head _) hj) (by omega) (by simp only [maxLen]; omega)) rfl rfl trivial (fun p43 v43 ob43 hS43 => ?_)
        obtain ⟨A1, c1, hv1, hn1, hm1, -⟩ := hS43.slice
        subst hv1
        have hS2 : SlO 57 7 (.slice A1 (n + 1) c1) (n + 1) (rowsV ptv (ps ++ [whole x])) [(p43, ob43)] := by rw [rowsV_app, rowsV_one]; exact hS43
        refine r_seg 15 14 [] [13] (by kernel_rfl) ?_
        refine s1 rfl (det_fieldAddr fld73_1 rfl) rfl rfl trivial rfl ?_
        refine sg_nil ?_
        refine st1 (fun _ => by kernel_rfl) rfl t1_27 rfl rfl rfl (.tail (.tail (.tail (.tail .head)))) rfl trivial rfl ?_
        refine be rfl ?_
        refine k_then ?_
        refine t_seq ?_
        refine b0 ?_
        refine o1 rfl (det_loadN tN73 rfl rfl (.tail _ (.tail _ (.tail _ (.tail _ (.head _))))) rfl) rfl rfl trivial ?_
        refine stN nofun rfl tN73 rfl rfl rfl (.tail (.tail .head)) rfl trivial rfl rfl ?_
        refine o1 rfl (det_assign rfl) rfl rfl trivial ?_
        refine o1 rfl (det_assign rfl) rfl rfl trivial ?_
        refine be rfl ?_
        refine k_then ?_
        refine t_ret ?_
        refine ret_any (vs := [_, _, _]) rfl rfl ⟨(.cellN tN73 rfl rfl (.tail _ (.tail _ (.head _))) rfl), (.tmp rfl), (.tmp rfl), trivial⟩ rfl (fun w1 hs => ?_)
        have hq : pushQ cap ps x = ((cap, ps ++ [whole x]), true, 0) := by unfold pushQ; rw [if_neg (by rw [hR]; simp), if_neg (by rw [hI]; simp), if_neg hb]
        exact end_fresh hs fun F2 h1 _ h3 => ⟨_, by rw [hq]; rfl, by rw [hq]; exact SlO.qv hS2 (fun p cs t fr k hm => h3 p cs t fr k (List.mem_cons.2 (.inl (List.mem_singleton.1 hm)))) rfl⟩
end Go.Proofs.Cp

/-
  Walks through layers 36, 37 and 38 and their references.
-/
namespace Go.Proofs.Cp
open Go Go.Eng Go.Qu
set_option maxRecDepth 4000
theorem head_ok {w : World} {F : Know} (hF : ∀ a v, F a = some v → w.cell? a = some v) {A : Option Addr} {n c : Nat} {cap : Int} {ps : List Pt} (hP : PK F A n ps) (hnb : n ≤ 65536) : Pure Try.prog 76 [.agg [.int .i64 cap, .slice A n c].toArray] w (.tuple [.agg [.int .i64 (headQ cap ps).1.it.st, .int .i64 (headQ cap ps).1.it.sq, .int .i64 (headQ cap ps).1.it.cl, .int .i64 (headQ cap ps).1.it.sz, .int .i64 (headQ cap ps).1.it.sn, .int .i64 (headQ cap ps).1.left, .bool (headQ cap ps).1.rest].toArray, .bool (headQ cap ps).2].toArray) := by
  refine fn_pure (F := F) Try.func76 rfl Try.ntmps76 rfl hF ?_
  refine t_seq ?_
  refine b0 ?_
  refine om1 rfl (new_boxN rfl) rfl rfl trivial (fun p1 => ?_)
  refine om1 rfl (new_alloc z57) rfl rfl trivial (fun p2 => ?_)
  refine o1 rfl (det_assign rfl) rfl rfl trivial ?_
  refine be rfl ?_
  refine k_then ?_
  refine t_seq ?_
  refine t_seq ?_
  refine b0 ?_
  have hnl := hP.len
  refine o1 rfl (det_loadN tN73 rfl rfl (.tail _ (.head _)) rfl) rfl rfl trivial ?_
  refine o1 rfl (det_call hb73 rfl rfl (fun w1 hs => qcheck_ok hs.know hP hnb)) rfl rfl trivial ?_
  refine o1 rfl (det_neq rfl rfl) rfl rfl trivial ?_
  refine o2P bne_iff_ne rfl (det_move rfl) rfl rfl trivial (fun hb => ?_) (fun hb => ?_)
  ·
    refine on rfl rfl rfl ⟨_, rfl, .inl rfl⟩ ?_
    refine on rfl rfl rfl ⟨_, rfl, .inl rfl⟩ ?_
    refine on rfl rfl rfl ⟨_, rfl, .inl rfl⟩ ?_
    refine on rfl rfl rfl ⟨_, rfl, .inl rfl⟩ ?_
    refine o1 rfl (det_pickT rfl rfl) rfl rfl trivial ?_
    refine be rfl ?_
    refine k_then ?_
    refine t_condT rfl ?_
    refine t_seq ?_
    refine b0 ?_
    refine o1 rfl (det_build rfl (fun w => bld57_ w)) rfl rfl trivial ?_
    refine stN nofun rfl tN57 rfl rfl rfl .head rfl trivial rfl rfl ?_
    refine o1 rfl (det_assign rfl) rfl rfl trivial ?_
    refine be rfl ?_
    refine k_then ?_
    refine t_ret (k_thenR (?_))
    refine ret_any (vs := [_, _]) rfl rfl ⟨(.cellN tN57 rfl rfl (.head _) rfl), (.tmp rfl), trivial⟩ rfl (fun w1 hs => ?_)
    have hq : headQ cap ps = (dPt, false) := by unfold headQ; rw [if_neg (by grind)]
    exact ⟨by rw [hq]; rfl, hs.keep⟩
  ·
    refine o1 rfl (det_fieldAddr fld73_1 rfl) rfl rfl ⟨_, rfl, rfl⟩ ?_
    refine o1 rfl (det_load1 t1_27 rfl rfl (.tail _ (.head _)) rfl) rfl rfl ⟨_, rfl, rfl⟩ ?_
    refine o1 rfl (det_lenS sl27 rfl) rfl rfl ⟨_, rfl, rfl⟩ ?_
    refine o1 rfl (det_eql rfl rfl) rfl rfl ⟨_, rfl, rfl⟩ ?_
    refine o1 rfl (det_pickF rfl rfl) rfl rfl trivial ?_
    refine be rfl ?_
    refine k_then ?_
    refine t_condP beq_iff_eq rfl (fun hb => ?_) (fun hb => ?_)
    ·
      refine t_seq ?_
      refine b0 ?_
      refine o1 rfl (det_build rfl (fun w => bld57_ w)) rfl rfl trivial ?_
      refine stN nofun rfl tN57 rfl rfl rfl .head rfl trivial rfl rfl ?_
      refine o1 rfl (det_assign rfl) rfl rfl trivial ?_
      refine be rfl ?_
      refine k_then ?_
      refine t_ret (k_thenR (?_))
      refine ret_any (vs := [_, _]) rfl rfl ⟨(.cellN tN57 rfl rfl (.head _) rfl), (.tmp rfl), trivial⟩ rfl (fun w1 hs => ?_)
      have hq : headQ cap ps = (dPt, false) := by unfold headQ; rw [if_neg (by grind)]
      exact ⟨by rw [hq]; rfl, hs.keep⟩
    ·
      refine t_skip ?_
      refine k_then ?_
      refine t_seq ?_
      refine b0 ?_
      refine o1 rfl (det_fieldAddr fld73_1 rfl) rfl rfl trivial ?_
      refine o1 rfl (det_load1 t1_27 rfl rfl (.tail _ (.head _)) rfl) rfl rfl trivial ?_
      have hR : rightQ cap ps = true := by grind
      have hlt0 : 0 < ps.length := by omega
      obtain ⟨A, rfl⟩ := hP.some hlt0
      have hat0 := atP_get hlt0
      first | (refine o1 rfl (det_indexAddr sl27 rfl rfl ?_) rfl rfl trivial ?_; (· (first | decide | omega)))
      refine o1 rfl (det_loadKN tN57 rfl (ptv_len ps[0]) (hP.cells (i := 0) (k := 0) rfl hlt0 (ptv_len _))) rfl rfl trivial ?_
      refine stN nofun rfl tN57 rfl rfl rfl .head rfl trivial rfl rfl ?_
      refine o1 rfl (det_assign rfl) rfl rfl trivial ?_
      refine be rfl ?_
      refine k_then ?_
      refine t_ret ?_
      refine ret_any (vs := [_, _]) rfl rfl ⟨(.cellN tN57 rfl rfl (.head _) rfl), (.tmp rfl), trivial⟩ rfl (fun w1 hs => ?_)
      have hq : headQ cap ps = (ps[0], true) := by unfold headQ; rw [if_pos ⟨hR, by omega⟩, hat0]
      exact ⟨by rw [hq]; rfl, hs.keep⟩
theorem pop_ok {w : World} {F : Know} (hF : ∀ a v, F a = some v → w.cell? a = some v) {A : Option Addr} {n c : Nat} {cap : Int} {ps : List Pt} (hP : PK F A n ps) (hnb : n ≤ 65536) (hnc : n ≤ c) (hcm : c ≤ maxLen) : CallsF Try.prog 118 [.agg [.int .i64 cap, .slice A n c].toArray] w F (fun v F2 => ∃ q, v = .tuple [q, .agg [.int .i64 (popQ cap ps).2.1.it.st, .int .i64 (popQ cap ps).2.1.it.sq, .int .i64 (popQ cap ps).2.1.it.cl, .int .i64 (popQ cap ps).2.1.it.sz, .int .i64 (popQ cap ps).2.1.it.sn, .int .i64 (popQ cap ps).2.1.left, .bool (popQ cap ps).2.1.rest].toArray, .int .i64 (popQ cap ps).2.2].toArray ∧ QV F2 q (popQ cap ps).1.1 (popQ cap ps).1.2) := by
  refine fn_fresh (F := F) Try.func118 rfl Try.ntmps118 rfl hF ?_
  refine t_seq ?_
  refine b0 ?_
  refine om1 rfl (new_boxN rfl) rfl rfl trivial (fun p1 => ?_)
  refine om1 rfl (new_alloc z73) rfl rfl trivial (fun p2 => ?_)
  refine om1 rfl (new_alloc z57) rfl rfl trivial (fun p3 => ?_)
  refine o1 rfl (det_assign rfl) rfl rfl trivial ?_
  refine be rfl ?_
  refine k_then ?_
  refine t_seq ?_
  refine t_seq ?_
  refine b0 ?_
  refine o1 rfl (det_loadN tN73 rfl rfl (.tail _ (.tail _ (.head _))) rfl) rfl rfl trivial ?_
  refine o1 rfl (det_call hb73 rfl rfl (fun w1 hs => qcheck_ok hs.know hP hnb)) rfl rfl trivial ?_
  refine o1 rfl (det_assign rfl) rfl rfl trivial ?_
  refine be rfl ?_
  refine k_then ?_
  refine t_seq ?_
  refine b0 ?_
  refine o1 rfl (det_move rfl) rfl rfl trivial ?_
  refine o1 rfl (det_neq rfl rfl) rfl rfl trivial ?_
  refine be rfl ?_
  refine k_then ?_
  refine t_condP bne_iff_ne rfl (fun hb => ?_) (fun hb => ?_)
  ·
    refine t_seq ?_
    refine b0 ?_
    refine o1 rfl (det_build rfl (fun w => bld73_ w)) rfl rfl trivial ?_
    refine o1 rfl (det_build rfl (fun w => bld57_ w)) rfl rfl trivial ?_
    refine o1 rfl (det_move rfl) rfl rfl trivial ?_
    refine stN nofun rfl tN73 rfl rfl rfl (.tail .head) rfl trivial rfl rfl ?_
    refine stN nofun rfl tN57 rfl rfl rfl .head rfl trivial rfl rfl ?_
    refine o1 rfl (det_assign rfl) rfl rfl trivial ?_
    refine be rfl ?_
    refine k_then ?_
    refine t_ret (k_thenR (?_))
    refine ret_any (vs := [_, _, _]) rfl rfl ⟨(.cellN tN73 rfl rfl (.tail _ (.head _)) rfl), (.cellN tN57 rfl rfl (.head _) rfl), (.tmp rfl), trivial⟩ rfl (fun w1 hs => ?_)
    have hR0 : rightQ cap ps = false := by grind
    have hq : popQ cap ps = ((0, []), dPt, 461) := by unfold popQ; rw [if_pos hR0]
    exact end_fresh hs fun F2 _ _ _ => ⟨_, by rw [hq, hR0]; rfl, by rw [hq]; exact QV.nil⟩
  ·
    refine t_skip ?_
    refine k_then ?_
    refine t_seq ?_
    refine t_seq ?_
    refine b0 ?_
    have hR : rightQ cap ps = true := by grind
    have hnl := hP.len
    refine o1 rfl (det_fieldAddr fld73_1 rfl) rfl rfl trivial ?_
    refine o1 rfl (det_load1 t1_27 rfl rfl (.tail _ (.tail _ (.head _))) rfl) rfl rfl trivial ?_
    refine o1 rfl (det_lenS sl27 rfl) rfl rfl trivial ?_
    refine o1 rfl (det_eql rfl rfl) rfl rfl trivial ?_
    refine be rfl ?_
    refine k_then ?_
    refine t_condP beq_iff_eq rfl (fun hb => ?_) (fun hb => ?_)
    ·
      refine t_seq ?_
      refine b0 ?_
      refine o1 rfl (det_build rfl (fun w => bld73_ w)) rfl rfl trivial ?_
      refine o1 rfl (det_build rfl (fun w => bld57_ w)) rfl rfl trivial ?_
      refine stN nofun rfl tN73 rfl rfl rfl (.tail .head) rfl trivial rfl rfl ?_
      refine stN nofun rfl tN57 rfl rfl rfl .head rfl trivial rfl rfl ?_
      refine o1 rfl (det_assign rfl) rfl rfl trivial ?_
      refine be rfl ?_
      refine k_then ?_
      refine t_ret (k_thenR (?_))
      refine ret_any (vs := [_, _, _]) rfl rfl ⟨(.cellN tN73 rfl rfl (.tail _ (.head _)) rfl), (.cellN tN57 rfl rfl (.head _) rfl), (.tmp rfl), trivial⟩ rfl (fun w1 hs => ?_)
      have hq : popQ cap ps = ((0, []), dPt, 4) := by unfold popQ; rw [if_neg (by rw [hR]; simp), if_pos (by omega)]
      exact end_fresh hs fun F2 _ _ _ => ⟨_, by rw [hq]; rfl, by rw [hq]; exact QV.nil⟩
    ·
      refine t_skip ?_
      refine k_then ?_
      refine t_seq ?_
      refine b0 ?_
      refine o1 rfl (det_fieldAddr fld73_1 rfl) rfl rfl trivial ?_
      refine o1 rfl (det_load1 t1_27 rfl rfl (.tail _ (.tail _ (.head _))) rfl) rfl rfl trivial ?_
      have hlt0 : 0 < ps.length := by omega
      obtain ⟨A, rfl⟩ := hP.some hlt0
      have hat0 := atP_get hlt0
      first | (refine o1 rfl (det_indexAddr sl27 rfl rfl ?_) rfl rfl trivial ?_; (· (first | decide | omega)))
      refine o1 rfl (det_loadKN tN57 rfl (ptv_len ps[0]) (hP.cells (i := 0) (k := 0) rfl hlt0 (ptv_len _))) rfl rfl trivial ?_
      refine om1 rfl (new_alloc z57) rfl rfl trivial (fun p6 => ?_)
      refine stN nofun rfl tN57 rfl rfl rfl .head rfl trivial rfl rfl ?_
      refine be rfl ?_
      refine k_then ?_
      refine t_seq ?_
      refine b0 ?_
      refine o1 rfl (det_fieldAddr fld73_1 rfl) rfl rfl trivial ?_
      refine o1 rfl (det_load1 t1_27 rfl rfl (.tail _ (.tail _ (.tail _ (.head _)))) rfl) rfl rfl trivial ?_
      refine o1 rfl (det_sliceLo 1 sl27 rfl rfl rfl (by omega) hnc) rfl rfl trivial ?_
      refine o1 rfl (det_fieldAddr fld73_1 rfl) rfl rfl trivial ?_
      refine st1 nofun rfl t1_27 rfl rfl rfl (.tail (.tail (.tail .head))) rfl trivial rfl ?_
      refine be rfl ?_
      refine k_then ?_
      refine t_seq ?_
      refine bD mixed ?_
      refine r_bar 5 2 [] [0, 1] _ (by kernel_rfl) (.cons_cons _ (.cons_cons _ (.cons _ (.refl _)))) ?_
      refine s1 rfl (det_loadN tN73 rfl rfl (.tail _ (.tail _ (.head _))) rfl) rfl rfl trivial rfl ?_
      refine s1 rfl (det_loadN tN57 rfl rfl (.head _) rfl) rfl rfl trivial rfl ?_
      refine sg_nil ⟨?_, ?_⟩
      rotate_left
      ·
        exact bar_stN rfl tN73 rfl rfl rfl (.tail (.tail .head)) rfl trivial rfl rfl (.tail _ (.tail _ (.head _))) (.cons_cons _ (.cons_cons _ (.cons _ (.refl _))))
      refine stN (fun _ => by kernel_rfl) rfl tN73 rfl rfl rfl (.tail (.tail .head)) rfl trivial rfl rfl ?_
      refine stN (fun _ => by kernel_rfl) rfl tN57 rfl rfl rfl (.tail .head) rfl trivial rfl rfl ?_
      refine r_seg 5 5 [] [4] (by kernel_rfl) ?_
      refine s1 rfl (det_assign rfl) rfl rfl trivial rfl ?_
      refine sg_nil ?_
      refine be rfl ?_
      refine k_then ?_
      refine t_ret ?_
      refine ret_any (vs := [_, _, _]) rfl rfl ⟨(.cellN tN73 rfl rfl (.tail _ (.tail _ (.head _))) rfl), (.cellN tN57 rfl rfl (.tail _ (.head _)) rfl), (.tmp rfl), trivial⟩ rfl (fun w1 hs => ?_)
      have hq : popQ cap ps = ((cap, ps.drop 1), ps[0], 0) := by unfold popQ; rw [if_neg (by rw [hR]; simp), if_neg (by omega), hat0]
      exact end_fresh hs fun F2 h1 _ _ => ⟨_, by rw [hq]; rfl, by rw [hq]; exact QV.mk ((hP.mono h1).from 1 (by omega) hnc) (by omega) (by omega)⟩
theorem return_ok {w : World} {F : Know} (hF : ∀ a v, F a = some v → w.cell? a = some v) {A : Option Addr} {n c : Nat} {cap : Int} {ps : List Pt} (hP : PK F A n ps) (hnb : n ≤ 65536) (hnc : n ≤ c) (hcm : c ≤ maxLen) {x : Pt} : CallsF Try.prog 103 [.agg [.int .i64 cap, .slice A n c].toArray, .agg [.int .i64 x.it.st, .int .i64 x.it.sq, .int .i64 x.it.cl, .int .i64 x.it.sz, .int .i64 x.it.sn, .int .i64 x.left, .bool x.rest].toArray] w F (fun v F2 => ∃ q, v = .tuple [q, .int .i64 (retQ cap ps x).2].toArray ∧ QV F2 q (retQ cap ps x).1.1 (retQ cap ps x).1.2) := by
  refine fn_fresh (F := F) Try.func103 rfl Try.ntmps103 rfl hF ?_
  refine t_seq ?_
  refine b0 ?_
  refine om1 rfl (new_boxN rfl) rfl rfl trivial (fun p2 => ?_)
  refine om1 rfl (new_boxN rfl) rfl rfl trivial (fun p3 => ?_)
  refine om1 rfl (new_alloc z73) rfl rfl trivial (fun p4 => ?_)
  refine o1 rfl (det_assign rfl) rfl rfl trivial ?_
  refine be rfl ?_
  refine k_then ?_
  refine t_seq ?_
  refine t_seq ?_
  refine b0 ?_
  refine o1 rfl (det_loadN tN73 rfl rfl (.tail _ (.tail _ (.head _))) rfl) rfl rfl trivial ?_
  refine o1 rfl (det_call hb73 rfl rfl (fun w1 hs => qcheck_ok hs.know hP hnb)) rfl rfl trivial ?_
  refine o1 rfl (det_assign rfl) rfl rfl trivial ?_
  refine be rfl ?_
  refine k_then ?_
  refine t_seq ?_
  refine b0 ?_
  refine o1 rfl (det_move rfl) rfl rfl trivial ?_
  refine o1 rfl (det_neq rfl rfl) rfl rfl trivial ?_
  refine be rfl ?_
  refine k_then ?_
  refine t_condP bne_iff_ne rfl (fun hb => ?_) (fun hb => ?_)
  ·
    refine t_seq ?_
    refine b0 ?_
    refine o1 rfl (det_build rfl (fun w => bld73_ w)) rfl rfl trivial ?_
    refine o1 rfl (det_move rfl) rfl rfl trivial ?_
    refine stN nofun rfl tN73 rfl rfl rfl .head rfl trivial rfl rfl ?_
    refine o1 rfl (det_assign rfl) rfl rfl trivial ?_
    refine be rfl ?_
    refine k_then ?_
    refine t_ret (k_thenR (?_))
    refine ret_any (vs := [_, _]) rfl rfl ⟨(.cellN tN73 rfl rfl (.head _) rfl), (.tmp rfl), trivial⟩ rfl (fun w1 hs => ?_)
    have hR0 : rightQ cap ps = false := by grind
    have hq : retQ cap ps x = ((0, []), 461) := by unfold retQ; rw [if_pos hR0]
    exact end_fresh hs fun F2 _ _ _ => ⟨_, by rw [hq, hR0]; rfl, by rw [hq]; exact QV.nil⟩
  ·
    refine t_skip ?_
    refine k_then ?_
    refine t_seq ?_
    refine t_seq ?_
    refine b0 ?_
    have hR : rightQ cap ps = true := by grind
    have hnl := hP.len
    refine o1 rfl (det_loadN tN57 rfl rfl (.tail _ (.head _)) rfl) rfl rfl trivial ?_
    refine o1 rfl (det_call hb53 rfl rfl (fun w1 hs => cpart_ok hs.know)) rfl rfl trivial ?_
    refine o1 rfl (det_assign rfl) rfl rfl trivial ?_
    refine be rfl ?_
    refine k_then ?_
    refine t_seq ?_
    refine b0 ?_
    refine o1 rfl (det_move rfl) rfl rfl trivial ?_
    refine o1 rfl (det_neq rfl rfl) rfl rfl trivial ?_
    refine be rfl ?_
    refine k_then ?_
    refine t_condP bne_iff_ne rfl (fun hb => ?_) (fun hb => ?_)
    ·
      refine t_seq ?_
      refine b0 ?_
      refine o1 rfl (det_build rfl (fun w => bld73_ w)) rfl rfl trivial ?_
      refine o1 rfl (det_move rfl) rfl rfl trivial ?_
      refine stN nofun rfl tN73 rfl rfl rfl .head rfl trivial rfl rfl ?_
      refine o1 rfl (det_assign rfl) rfl rfl trivial ?_
      refine be rfl ?_
      refine k_then ?_
      refine t_ret (k_thenR (?_))
      refine ret_any (vs := [_, _]) rfl rfl ⟨(.cellN tN73 rfl rfl (.head _) rfl), (.tmp rfl), trivial⟩ rfl (fun w1 hs => ?_)
      have hX0 : okP x = false := by grind
      have hq : retQ cap ps x = ((0, []), 460) := by unfold retQ; rw [if_neg (by rw [hR]; simp), if_pos hX0]
      exact end_fresh hs fun F2 _ _ _ => ⟨_, by rw [hq, hX0]; rfl, by rw [hq]; exact QV.nil⟩
    ·
      refine t_skip ?_
      refine k_then ?_
      refine t_seq ?_
      refine t_seq ?_
      refine b0 ?_
      have hX : okP x = true := by grind
      refine o1 rfl (det_fieldAddr fld57_2 rfl) rfl rfl trivial ?_
      refine o1 rfl (det_load1 t1_4 rfl rfl (.tail _ (.head _)) rfl) rfl rfl trivial ?_
      refine o1 rfl (det_not rfl) rfl rfl trivial ?_
      refine o2P not_iff_false rfl (det_move rfl) rfl rfl trivial (fun hb => ?_) (fun hb => ?_)
      ·
        refine on rfl rfl rfl ⟨_, rfl, .inl rfl⟩ ?_
        refine on rfl rfl rfl ⟨_, rfl, .inl rfl⟩ ?_
        refine on rfl rfl rfl ⟨_, rfl, .inl rfl⟩ ?_
        refine on rfl rfl rfl ⟨_, rfl, .inl rfl⟩ ?_
        refine on rfl rfl rfl ⟨_, rfl, .inl rfl⟩ ?_
        refine on rfl rfl rfl ⟨_, rfl, .inr rfl⟩ ?_
        refine on rfl rfl rfl ⟨_, rfl, .inr rfl⟩ ?_
        refine on rfl rfl rfl ⟨_, rfl, .inr rfl⟩ ?_
        refine on rfl rfl rfl ⟨_, rfl, .inr rfl⟩ ?_
        refine on rfl rfl rfl ⟨_, rfl, .inr rfl⟩ ?_
        refine on rfl rfl rfl ⟨_, rfl, .inl rfl⟩ ?_
        refine o1 rfl (det_pickT rfl rfl) rfl rfl trivial ?_
        refine be rfl ?_
        refine k_then ?_
        refine t_condT rfl ?_
        refine t_seq ?_
        refine b0 ?_
        refine o1 rfl (det_build rfl (fun w => bld73_ w)) rfl rfl trivial ?_
        refine stN nofun rfl tN73 rfl rfl rfl .head rfl trivial rfl rfl ?_
        refine o1 rfl (det_assign rfl) rfl rfl trivial ?_
        refine be rfl ?_
        refine k_then ?_
        refine t_ret (k_thenR (?_))
        refine ret_any (vs := [_, _]) rfl rfl ⟨(.cellN tN73 rfl rfl (.head _) rfl), (.tmp rfl), trivial⟩ rfl (fun w1 hs => ?_)
        have hq : retQ cap ps x = ((0, []), 2) := by unfold retQ; rw [if_neg (by rw [hR]; simp), if_neg (by rw [hX]; simp), if_pos (by grind [restQ])]
        exact end_fresh hs fun F2 _ _ _ => ⟨_, by rw [hq]; rfl, by rw [hq]; exact QV.nil⟩
      ·
        refine o1 rfl (det_fieldAddr fld73_1 rfl) rfl rfl ⟨_, rfl, rfl⟩ ?_
        refine o1 rfl (det_load1 t1_27 rfl rfl (.tail _ (.tail _ (.head _))) rfl) rfl rfl ⟨_, rfl, rfl⟩ ?_
        refine o1 rfl (det_lenS sl27 rfl) rfl rfl ⟨_, rfl, rfl⟩ ?_
        refine o1 rfl (det_gtr rfl rfl) rfl rfl ⟨_, rfl, rfl⟩ ?_
        refine o2P decide_eq_true_iff rfl (det_move rfl) rfl rfl ⟨_, rfl, rfl⟩ (fun hb => ?_) (fun hb => ?_)
        ·
          refine o1 rfl (det_fieldAddr fld73_1 rfl) rfl rfl ⟨_, rfl, rfl⟩ ?_
          refine o1 rfl (det_load1 t1_27 rfl rfl (.tail _ (.tail _ (.head _))) rfl) rfl rfl ⟨_, rfl, rfl⟩ ?_
          have hlt0 : 0 < ps.length := by omega
          obtain ⟨A, rfl⟩ := hP.some hlt0
          have hat0 := atP_get hlt0
          first | (refine o1 rfl (det_indexAddr sl27 rfl rfl ?_) rfl rfl ⟨_, rfl, rfl⟩ ?_; (· (first | decide | omega)))
          refine o1 rfl (det_fieldAddr fld57_2 rfl) rfl rfl ⟨_, rfl, rfl⟩ ?_
          refine o1 rfl (det_loadK t1_4 rfl (hP.cell (i := 0) (k := 0) (j := 6) (u := .bool ps[0].rest) rfl hlt0 rfl)) rfl rfl ⟨_, rfl, rfl⟩ ?_
          refine o1 rfl (det_pickT rfl rfl) rfl rfl ⟨_, rfl, rfl⟩ ?_
          refine o1 rfl (det_pickF rfl rfl) rfl rfl trivial ?_
          refine be rfl ?_
          refine k_then ?_
          refine t_condP Iff.rfl rfl (fun hb => ?_) (fun hb => ?_)
          ·
            refine t_seq ?_
            refine b0 ?_
            refine o1 rfl (det_build rfl (fun w => bld73_ w)) rfl rfl trivial ?_
            refine stN nofun rfl tN73 rfl rfl rfl .head rfl trivial rfl rfl ?_
            refine o1 rfl (det_assign rfl) rfl rfl trivial ?_
            refine be rfl ?_
            refine k_then ?_
            refine t_ret (k_thenR (?_))
            refine ret_any (vs := [_, _]) rfl rfl ⟨(.cellN tN73 rfl rfl (.head _) rfl), (.tmp rfl), trivial⟩ rfl (fun w1 hs => ?_)
            have hq : retQ cap ps x = ((0, []), 2) := by unfold retQ; rw [if_neg (by rw [hR]; simp), if_neg (by rw [hX]; simp), if_pos (by grind [restQ])]
            exact end_fresh hs fun F2 _ _ _ => ⟨_, by rw [hq]; rfl, by rw [hq]; exact QV.nil⟩
          ·
            refine t_skip ?_
            refine k_then ?_
            refine t_seq ?_
            refine b0 ?_
            refine o1 rfl (det_loadN tN57 rfl rfl (.tail _ (.head _)) rfl) rfl rfl trivial ?_
            refine om1 rfl (new_buildSlice rfl (fun w => bsl27_1_0 _ _ _ _ _ _ _ w)) rfl rfl trivial (fun p38 => ?_)
            refine o1 rfl (det_fieldAddr fld73_1 rfl) rfl rfl trivial ?_
            refine o1 rfl (det_load1 t1_27 rfl rfl (.tail _ (.tail _ (.tail _ (.head _)))) rfl) rfl rfl trivial ?_
            refine oAppH (b := [_]) (post := [_, _, _]) (m := n) (news := rowsV ptv ps) nofun rfl ap27 rfl rfl rfl trivial (SlO.lit (n := 1) (xs := ptv x) rfl (by decide)) (by rw [rowsV_len ptv_len, hP.len]) (fun w hs j u hj => by obtain ⟨b, hb, h⟩ := hP.flat ptv_len (by decide) j u hj; exact ⟨b, hb, hs.know _ _ h⟩) (rowsV_one_cell ps) (by omega) (by simp only [maxLen]; omega) (fun A1 c1 b1 hS1 => ?_)
            replace hS1 : SlO 57 7 (.slice A1 (1 + n) c1) (1 + n) (rowsV ptv (x :: ps)) b1 := hS1
            obtain ⟨A2, c2, hv2, hn2, hm2, -⟩ := hS1.slice
            refine o1 rfl (det_fieldAddr fld73_1 rfl) rfl rfl trivial ?_
            refine st1 nofun rfl t1_27 rfl rfl rfl (.tail (.tail .head)) rfl trivial rfl ?_
            refine be rfl ?_
            refine k_then ?_
            refine t_seq ?_
            refine b0 ?_
            refine o1 rfl (det_loadN tN73 rfl rfl (.tail _ (.tail _ (.head _))) rfl) rfl rfl trivial ?_
            refine stN nofun rfl tN73 rfl rfl rfl .head rfl trivial rfl rfl ?_
            refine o1 rfl (det_assign rfl) rfl rfl trivial ?_
            refine be rfl ?_
            refine k_then ?_
            refine t_ret ?_
            refine ret_any (vs := [_, _]) rfl rfl ⟨(.cellN tN73 rfl rfl (.head _) rfl), (.tmp rfl), trivial⟩ rfl (fun w1 hs => ?_)
            have hq : retQ cap ps x = ((cap, x :: ps), 0) := by unfold retQ; rw [if_neg (by rw [hR]; simp), if_neg (by rw [hX]; simp), if_neg (by grind [restQ])]
            exact end_fresh hs fun F2 h1 _ h3 => ⟨_, by rw [hq]; rfl, by rw [hq]; exact SlO.qv hS1 (fun p cs t fr k hm => h3 p cs t fr k (.tail _ (.tail _ (.tail _ hm)))) rfl⟩
        ·
          refine on rfl rfl rfl ⟨_, rfl, .inl rfl⟩ ?_
          refine on rfl rfl rfl ⟨_, rfl, .inl rfl⟩ ?_
          refine on rfl rfl rfl ⟨_, rfl, .inl rfl⟩ ?_
          refine on rfl rfl rfl ⟨_, rfl, .inl rfl⟩ ?_
          refine on rfl rfl rfl ⟨_, rfl, .inl rfl⟩ ?_
          refine o1 rfl (det_pickF rfl rfl) rfl rfl ⟨_, rfl, rfl⟩ ?_
          refine o1 rfl (det_pickF rfl rfl) rfl rfl trivial ?_
          refine be rfl ?_
          refine k_then ?_
          refine t_condF rfl ?_
          refine t_skip ?_
          refine k_then ?_
          refine t_seq ?_
          refine b0 ?_
          refine o1 rfl (det_loadN tN57 rfl rfl (.tail _ (.head _)) rfl) rfl rfl trivial ?_
          refine om1 rfl (new_buildSlice rfl (fun w => bsl27_1_0 _ _ _ _ _ _ _ w)) rfl rfl trivial (fun p38 => ?_)
          refine o1 rfl (det_fieldAddr fld73_1 rfl) rfl rfl trivial ?_
          refine o1 rfl (det_load1 t1_27 rfl rfl (.tail _ (.tail _ (.tail _ (.head _)))) rfl) rfl rfl trivial ?_
          refine oAppH (b := [_]) (post := [_, _, _]) (m := n) (news := rowsV ptv ps) nofun rfl ap27 rfl rfl rfl trivial (SlO.lit (n := 1) (xs := ptv x) rfl (by decide)) (by rw [rowsV_len ptv_len, hP.len]) (fun w hs j u hj => by obtain ⟨b, hb, h⟩ := hP.flat ptv_len (by decide) j u hj; exact ⟨b, hb, hs.know _ _ h⟩) (rowsV_one_cell ps) (by omega) (by simp only [maxLen]; omega) (fun A1 c1 b1 hS1 => ?_)
          replace hS1 : SlO 57 7 (.slice A1 (1 + n) c1) (1 + n) (rowsV ptv (x :: ps)) b1 := hS1
          obtain ⟨A2, c2, hv2, hn2, hm2, -⟩ := hS1.slice
          refine o1 rfl (det_fieldAddr fld73_1 rfl) rfl rfl trivial ?_
          refine st1 nofun rfl t1_27 rfl rfl rfl (.tail (.tail .head)) rfl trivial rfl ?_
          refine be rfl ?_
          refine k_then ?_
          refine t_seq ?_
          refine b0 ?_
          refine o1 rfl (det_loadN tN73 rfl rfl (.tail _ (.tail _ (.head _))) rfl) rfl rfl trivial ?_
          refine stN nofun rfl tN73 rfl rfl rfl .head rfl trivial rfl rfl ?_
          refine o1 rfl (det_assign rfl) rfl rfl trivial ?_
          refine be rfl ?_
          refine k_then ?_
          refine t_ret ?_
          refine ret_any (vs := [_, _]) rfl rfl ⟨(.cellN tN73 rfl rfl (.head _) rfl), (.tmp rfl), trivial⟩ rfl (fun w1 hs => ?_)
          have hq : retQ cap ps x = ((cap, x :: ps), 0) := by unfold retQ; rw [if_neg (by rw [hR]; simp), if_neg (by rw [hX]; simp), if_neg (by grind [restQ])]
          exact end_fresh hs fun F2 h1 _ h3 => ⟨_, by rw [hq]; rfl, by rw [hq]; exact SlO.qv hS1 (fun p cs t fr k hm => h3 p cs t fr k (.tail _ (.tail _ (.tail _ hm)))) rfl⟩
end Go.Proofs.Cp

/-
  Walks through layers 36, 37 and 38 and their references.
-/
namespace Go.Proofs.Cp
open Go Go.Eng Go.Qu
set_option maxRecDepth 4000
theorem qsame_ok {w : World} {F : Know} (hF : ∀ a v, F a = some v → w.cell? a = some v) {A : Option Addr} {n c : Nat} {cap : Int} {ps : List Pt} (hP : PK F A n ps) (hnb : n ≤ 65536) {B : Option Addr} {m d : Nat} {dap : Int} {qs : List Pt} (hR : PK F B m qs) : Pure Try.prog 96 [.agg [.int .i64 cap, .slice A n c].toArray, .agg [.int .i64 dap, .slice B m d].toArray] w (.bool (decide (cap = dap ∧ ps = qs))) := by
  refine fn_pure (F := F) Try.func96 rfl Try.ntmps96 rfl hF ?_
  refine t_seq ?_
  refine b0 ?_
  refine om1 rfl (new_boxN rfl) rfl rfl trivial (fun p2 => ?_)
  refine om1 rfl (new_boxN rfl) rfl rfl trivial (fun p3 => ?_)
  refine o1 rfl (det_assign rfl) rfl rfl trivial ?_
  refine be rfl ?_
  refine k_then ?_
  refine t_seq ?_
  refine t_seq ?_
  refine b0 ?_
  refine o1 rfl (det_fieldAddr fld73_0 rfl) rfl rfl trivial ?_
  refine o1 rfl (det_load1 t1_3 rfl rfl (.tail _ (.head _)) rfl) rfl rfl trivial ?_
  refine o1 rfl (det_fieldAddr fld73_0 rfl) rfl rfl trivial ?_
  refine o1 rfl (det_load1 t1_3 rfl rfl (.head _) rfl) rfl rfl trivial ?_
  refine o1 rfl (det_neq rfl rfl) rfl rfl trivial ?_
  refine o2P bne_iff_ne rfl (det_move rfl) rfl rfl trivial (fun hb => ?_) (fun hb => ?_)
  ·
    refine on rfl rfl rfl ⟨_, rfl, .inl rfl⟩ ?_
    refine on rfl rfl rfl ⟨_, rfl, .inl rfl⟩ ?_
    refine on rfl rfl rfl ⟨_, rfl, .inl rfl⟩ ?_
    refine on rfl rfl rfl ⟨_, rfl, .inl rfl⟩ ?_
    refine on rfl rfl rfl ⟨_, rfl, .inl rfl⟩ ?_
    refine on rfl rfl rfl ⟨_, rfl, .inl rfl⟩ ?_
    refine on rfl rfl rfl ⟨_, rfl, .inl rfl⟩ ?_
    refine o1 rfl (det_pickT rfl rfl) rfl rfl trivial ?_
    refine be rfl ?_
    refine k_then ?_
    refine t_condT rfl ?_
    refine t_seq ?_
    refine b0 ?_
    refine o1 rfl (det_assign rfl) rfl rfl trivial ?_
    refine be rfl ?_
    refine k_then ?_
    refine t_ret (k_thenR (?_))
    refine ret_tmp rfl rfl rfl (fun w1 hs => ?_)
    exact ⟨by rw [decide_eq_false (fun h => by simp_all)], hs.keep⟩
  ·
    refine o1 rfl (det_fieldAddr fld73_1 rfl) rfl rfl ⟨_, rfl, rfl⟩ ?_
    refine o1 rfl (det_load1 t1_27 rfl rfl (.tail _ (.head _)) rfl) rfl rfl ⟨_, rfl, rfl⟩ ?_
    refine o1 rfl (det_lenS sl27 rfl) rfl rfl ⟨_, rfl, rfl⟩ ?_
    refine o1 rfl (det_fieldAddr fld73_1 rfl) rfl rfl ⟨_, rfl, rfl⟩ ?_
    refine o1 rfl (det_load1 t1_27 rfl rfl (.head _) rfl) rfl rfl ⟨_, rfl, rfl⟩ ?_
    refine o1 rfl (det_lenS sl27 rfl) rfl rfl ⟨_, rfl, rfl⟩ ?_
    refine o1 rfl (det_neq rfl rfl) rfl rfl ⟨_, rfl, rfl⟩ ?_
    refine o1 rfl (det_pickF rfl rfl) rfl rfl trivial ?_
    refine be rfl ?_
    refine k_then ?_
    refine t_condP bne_iff_ne rfl (fun hb => ?_) (fun hb => ?_)
    ·
      refine t_seq ?_
      refine b0 ?_
      refine o1 rfl (det_assign rfl) rfl rfl trivial ?_
      refine be rfl ?_
      refine k_then ?_
      refine t_ret (k_thenR (?_))
      refine ret_tmp rfl rfl rfl (fun w1 hs => ?_)
      have hne : ps ≠ qs := fun e => by have := congrArg List.length e; have := hP.len; have := hR.len; omega
      exact ⟨by rw [decide_eq_false (fun h => hne h.2)], hs.keep⟩
    ·
      refine t_skip ?_
      refine k_then ?_
      refine t_seq ?_
      refine t_seq ?_
      refine b0 ?_
      refine o1 rfl (det_assign rfl) rfl rfl trivial ?_
      refine be rfl ?_
      refine k_then ?_
      refine t_block ?_
      refine t_whileM (σ := Nat) (fun s => [(5, .int .i64 s)]) (fun _ => _) (fun s => ps.length - s) (fun s => s ≤ ps.length ∧ ∀ i, i < s → atP ps i = atP qs i) 0 (env0 := [(2, _), (3, _)]) ⟨Nat.zero_le _, fun i hi => absurd hi (Nat.not_lt_zero i)⟩ ⟨rfl, trivial⟩ ⟨rfl, rfl, trivial⟩ (.refl _) ?_
      rintro s ⟨hsl, hI⟩
      have hnl := hP.len
      have hml := hR.len
      refine t_seq ?_
      refine t_seq ?_
      refine b0 ?_
      refine o1 rfl (det_move rfl) rfl rfl trivial ?_
      refine o1 rfl (det_fieldAddr fld73_1 rfl) rfl rfl trivial ?_
      refine o1 rfl (det_load1 t1_27 rfl rfl (.tail _ (.head _)) rfl) rfl rfl trivial ?_
      refine o1 rfl (det_lenS sl27 rfl) rfl rfl trivial ?_
      refine o1 rfl (det_lss rfl rfl) rfl rfl trivial ?_
      refine be rfl ?_
      refine k_then ?_
      refine t_condP decide_eq_true_iff rfl (fun hb => ?_) (fun hb => ?_)
      ·
        have hlt : s < ps.length := by omega
        have hlt2 : s < qs.length := by omega
        obtain ⟨A, rfl⟩ := hP.some hlt
        obtain ⟨B, rfl⟩ := hR.some hlt2
        have hat := (atP_get hlt).symm
        have hat2 := (atP_get hlt2).symm
        refine t_skip ?_
        refine k_then ?_
        refine t_seq ?_
        refine t_block ?_
        refine t_seq ?_
        refine bD mixed ?_
        refine r_seg 11 11 [] [0, 1, 2, 3, 4, 5, 6, 7, 8, 9, 10] (by kernel_rfl) ?_
        refine s1 rfl (det_fieldAddr fld73_1 rfl) rfl rfl trivial rfl ?_
        refine s1 rfl (det_load1 t1_27 rfl rfl (.tail _ (.head _)) rfl) rfl rfl trivial rfl ?_
        refine s1 rfl (det_move rfl) rfl rfl trivial rfl ?_
        first | (refine s1 rfl (det_indexAddr sl27 rfl rfl ?_) rfl rfl trivial rfl ?_; (· (first | decide | omega)))
        refine s1 rfl (det_loadKN tN57 rfl (ptv_len ps[s]) (hP.cells (i := (s : Int)) (k := s) (Int.toNat_natCast s) hlt (ptv_len _))) rfl rfl trivial rfl ?_
        refine s1 rfl (det_fieldAddr fld73_1 rfl) rfl rfl trivial rfl ?_
        refine s1 rfl (det_load1 t1_27 rfl rfl (.head _) rfl) rfl rfl trivial rfl ?_
        refine s1 rfl (det_move rfl) rfl rfl trivial rfl ?_
        first | (refine s1 rfl (det_indexAddr sl27 rfl rfl ?_) rfl rfl trivial rfl ?_; (· (first | decide | omega)))
        refine s1 rfl (det_loadKN tN57 rfl (ptv_len qs[s]) (hR.cells (i := (s : Int)) (k := s) (Int.toNat_natCast s) hlt2 (ptv_len _))) rfl rfl trivial rfl ?_
        refine s1 rfl (det_neqS rfl rfl eqg57 (fun w => eq57 _ _ _ _ _ _ _ _ _ _ _ _ _ _ w)) rfl rfl trivial rfl ?_
        refine sg_nil ?_
        refine be rfl ?_
        refine k_then ?_
        refine t_condP Iff.rfl rfl (fun hb => ?_) (fun hb => ?_)
        ·
          replace hb : (!eqP ps[s] qs[s]) = true := hb
          have hne : ps ≠ qs := fun e => by subst e; have := eqP_iff.2 (rfl : ps[s] = ps[s]); rw [this] at hb; cases hb
          refine t_seq ?_
          refine b0 ?_
          refine o1 rfl (det_assign rfl) rfl rfl trivial ?_
          refine be rfl ?_
          refine k_then ?_
          refine t_ret (k_blkR (k_thenR (k_thenR (k_blkR (k_thenR (?_))))))
          refine ret_tmp rfl rfl rfl (fun w1 hs => ?_)
          exact ⟨by rw [decide_eq_false (fun h => hne h.2)], hs.keep⟩
        ·
          replace hb : ¬ (!eqP ps[s] qs[s]) = true := hb
          have heq : atP ps s = atP qs s := by rw [← hat, ← hat2]; exact eqP_iff.1 (by simpa using hb)
          refine t_skip ?_
          refine k_blk ?_
          refine k_then ?_
          refine b0 ?_
          refine o1 rfl (det_move rfl) rfl rfl trivial ?_
          first | (refine o1 rfl (det_addI rfl rfl ?_) rfl rfl trivial ?_; (· omega)) | refine o1 rfl (det_add rfl rfl) rfl rfl trivial ?_
          refine o1 rfl (det_assign rfl) rfl rfl trivial ?_
          refine be rfl ?_
          refine k_then ?_
          refine loop_back (s + 1) ⟨by omega, fun i hi => by
              rcases Nat.lt_or_ge i s with h1 | h1
              · exact hI i h1
              · rw [show i = s by omega]; exact heq⟩ (by omega) ⟨rfl, rfl, rfl, trivial⟩ (.refl _)
      ·
        have hse : s = ps.length := by omega
        subst hse
        have heq := eqPs_of (ps := ps) (qs := qs) (by omega) hI
        refine t_exit ?_
        refine k_thenE ?_
        refine k_thenE ?_
        refine k_blkE ?_
        refine k_then ?_
        refine t_seq ?_
        refine b0 ?_
        refine o1 rfl (det_assign rfl) rfl rfl trivial ?_
        refine be rfl ?_
        refine k_then ?_
        refine t_ret ?_
        refine ret_tmp rfl rfl rfl (fun w1 hs => ?_)
        exact ⟨by rw [decide_eq_true ⟨by grind, heq⟩], hs.keep⟩
end Go.Proofs.Cp

/-
  Walks through layer 38.
-/
namespace Go.Proofs.Cp
open Go Go.Eng Go.Gt Go.Proofs.Gt Go.Sw Go.Qu Go.Ch Go.Po
set_option maxRecDepth 4000
theorem pre1_ok {w : World} {F : Know} (hF : ∀ a v, F a = some v → w.cell? a = some v) {x : Pt} : Pure Try.prog 72 [.agg (ptv x).toArray] w (.bool (decide (x.it.cl < 6))) := by
  refine fn_pure (F := F) Try.func72 rfl Try.ntmps72 rfl hF ?_
  refine t_seq ?_
  refine b0 ?_
  refine om1 rfl (new_boxN rfl) rfl rfl trivial (fun p1 => ?_)
  refine o1 rfl (det_assign rfl) rfl rfl trivial ?_
  refine be rfl ?_
  refine k_then ?_
  refine t_seq ?_
  refine b0 ?_
  refine o1 rfl (det_fieldAddr fld57_0 rfl) rfl rfl trivial ?_
  refine o1 rfl (det_fieldAddr fld55_2 rfl) rfl rfl trivial ?_
  refine o1 rfl (det_load1 t1_3 rfl rfl (.head _) rfl) rfl rfl trivial ?_
  refine o1 rfl (det_lss rfl rfl) rfl rfl trivial ?_
  refine o1 rfl (det_assign rfl) rfl rfl trivial ?_
  refine be rfl ?_
  refine k_then ?_
  refine t_ret ?_
  refine ret_tmp rfl rfl rfl (fun w1 hs => ?_)
  exact ⟨by grind, hs.keep⟩
theorem vs_ok {w : World} {F : Know} (hF : ∀ a v, F a = some v → w.cell? a = some v) {q : Nat} {p : Ps} {B G : Option Addr} {m d k gk : Nat} (hg : ∀ j, j < 18 → F ((⟨q, 0, none⟩ : Addr).add j) = (pev p B m d G k gk)[j]?) (hper : 1 ≤ p.l.per ∧ p.l.per ≤ 1000) (hnow : 0 ≤ p.now ∧ p.now ≤ 549755813888) : Pure Try.prog 71 [.pointer (some ⟨q, 0, none⟩)] w (.bool (sendOk p)) := by
  refine fn_pure (F := F) Try.func71 rfl Try.ntmps71 rfl hF ?_
  refine t_seq ?_
  refine b0 ?_
  refine o1 rfl (det_assign rfl) rfl rfl trivial ?_
  refine be rfl ?_
  refine k_then ?_
  refine t_seq ?_
  refine t_seq ?_
  refine b0 ?_
  refine o1 rfl (det_move rfl) rfl rfl trivial ?_
  refine o1 rfl (det_nilCheck rfl) rfl rfl trivial ?_
  refine o1 rfl (det_fieldAddr fld125_0 rfl) rfl rfl trivial ?_
  refine o1 rfl (det_fieldAddr fld68_3 rfl) rfl rfl trivial ?_
  refine o1 rfl (det_loadK t1_4 rfl (hg 6 (by decide))) rfl rfl trivial ?_
  refine o1 rfl (det_not rfl) rfl rfl trivial ?_
  refine be rfl ?_
  refine k_then ?_
  refine t_condP not_iff_false rfl (fun hb => ?_) (fun hb => ?_)
  ·
    refine t_seq ?_
    refine b0 ?_
    refine o1 rfl (det_move rfl) rfl rfl trivial ?_
    refine o1 rfl (det_nilCheck rfl) rfl rfl trivial ?_
    refine o1 rfl (det_fieldAddr fld125_0 rfl) rfl rfl trivial ?_
    refine o1 rfl (det_fieldAddr fld68_4 rfl) rfl rfl trivial ?_
    refine o1 rfl (det_loadKN tN57 rfl (r := ptv p.snd) rfl (cells_sub hg 7 (by decide) rfl)) rfl rfl trivial ?_
    refine o1 rfl (det_build rfl (fun w => bld57_ w)) rfl rfl trivial ?_
    refine o1 rfl (det_eqlS rfl rfl eqg57 (fun w => eq57 _ _ _ _ _ _ _ _ _ _ _ _ _ _ w)) rfl rfl trivial ?_
    refine o2P Iff.rfl rfl (det_move rfl) rfl rfl trivial (fun hb => ?_) (fun hb => ?_)
    ·
      refine o1 rfl (det_move rfl) rfl rfl ⟨_, rfl, rfl⟩ ?_
      refine o1 rfl (det_nilCheck rfl) rfl rfl ⟨_, rfl, rfl⟩ ?_
      refine o1 rfl (det_fieldAddr fld125_0 rfl) rfl rfl ⟨_, rfl, rfl⟩ ?_
      refine o1 rfl (det_fieldAddr fld68_5 rfl) rfl rfl ⟨_, rfl, rfl⟩ ?_
      refine o1 rfl (det_loadK t1_3 rfl (hg 14 (by decide))) rfl rfl ⟨_, rfl, rfl⟩ ?_
      refine o1 rfl (det_eql rfl rfl) rfl rfl ⟨_, rfl, rfl⟩ ?_
      refine o1 rfl (det_pickT rfl rfl) rfl rfl trivial ?_
      refine o2P beq_iff_eq rfl (det_move rfl) rfl rfl trivial (fun hb => ?_) (fun hb => ?_)
      ·
        refine o1 rfl (det_move rfl) rfl rfl ⟨_, rfl, rfl⟩ ?_
        refine o1 rfl (det_nilCheck rfl) rfl rfl ⟨_, rfl, rfl⟩ ?_
        refine o1 rfl (det_fieldAddr fld125_0 rfl) rfl rfl ⟨_, rfl, rfl⟩ ?_
        refine o1 rfl (det_fieldAddr fld68_6 rfl) rfl rfl ⟨_, rfl, rfl⟩ ?_
        refine o1 rfl (det_loadK t1_3 rfl (hg 15 (by decide))) rfl rfl ⟨_, rfl, rfl⟩ ?_
        refine o1 rfl (det_eql rfl rfl) rfl rfl ⟨_, rfl, rfl⟩ ?_
        refine o1 rfl (det_pickT rfl rfl) rfl rfl trivial ?_
        refine o2P beq_iff_eq rfl (det_move rfl) rfl rfl trivial (fun hb => ?_) (fun hb => ?_)
        ·
          refine o1 rfl (det_move rfl) rfl rfl ⟨_, rfl, rfl⟩ ?_
          refine o1 rfl (det_nilCheck rfl) rfl rfl ⟨_, rfl, rfl⟩ ?_
          refine o1 rfl (det_fieldAddr fld125_0 rfl) rfl rfl ⟨_, rfl, rfl⟩ ?_
          refine o1 rfl (det_fieldAddr fld68_7 rfl) rfl rfl ⟨_, rfl, rfl⟩ ?_
          refine o1 rfl (det_loadK t1_3 rfl (hg 16 (by decide))) rfl rfl ⟨_, rfl, rfl⟩ ?_
          refine o1 rfl (det_eql rfl rfl) rfl rfl ⟨_, rfl, rfl⟩ ?_
          refine o1 rfl (det_pickT rfl rfl) rfl rfl trivial ?_
          refine o1 rfl (det_assign rfl) rfl rfl trivial ?_
          refine be rfl ?_
          refine k_then ?_
          refine t_ret (k_thenR (?_))
          refine ret_tmp rfl rfl rfl (fun w1 hs => ?_)
          exact ⟨by unfold sendOk; grind [noneP], hs.keep⟩
        ·
          refine on rfl rfl rfl ⟨_, rfl, .inl rfl⟩ ?_
          refine on rfl rfl rfl ⟨_, rfl, .inl rfl⟩ ?_
          refine on rfl rfl rfl ⟨_, rfl, .inl rfl⟩ ?_
          refine on rfl rfl rfl ⟨_, rfl, .inl rfl⟩ ?_
          refine on rfl rfl rfl ⟨_, rfl, .inl rfl⟩ ?_
          refine on rfl rfl rfl ⟨_, rfl, .inl rfl⟩ ?_
          refine o1 rfl (det_pickF rfl rfl) rfl rfl trivial ?_
          refine o1 rfl (det_assign rfl) rfl rfl trivial ?_
          refine be rfl ?_
          refine k_then ?_
          refine t_ret (k_thenR (?_))
          refine ret_tmp rfl rfl rfl (fun w1 hs => ?_)
          exact ⟨by unfold sendOk; grind [noneP], hs.keep⟩
      ·
        refine on rfl rfl rfl ⟨_, rfl, .inl rfl⟩ ?_
        refine on rfl rfl rfl ⟨_, rfl, .inl rfl⟩ ?_
        refine on rfl rfl rfl ⟨_, rfl, .inl rfl⟩ ?_
        refine on rfl rfl rfl ⟨_, rfl, .inl rfl⟩ ?_
        refine on rfl rfl rfl ⟨_, rfl, .inl rfl⟩ ?_
        refine on rfl rfl rfl ⟨_, rfl, .inl rfl⟩ ?_
        refine o1 rfl (det_pickF rfl rfl) rfl rfl trivial ?_
        refine o1 rfl (det_move rfl) rfl rfl trivial ?_
        refine on rfl rfl rfl ⟨_, rfl, .inl rfl⟩ ?_
        refine on rfl rfl rfl ⟨_, rfl, .inl rfl⟩ ?_
        refine on rfl rfl rfl ⟨_, rfl, .inl rfl⟩ ?_
        refine on rfl rfl rfl ⟨_, rfl, .inl rfl⟩ ?_
        refine on rfl rfl rfl ⟨_, rfl, .inl rfl⟩ ?_
        refine on rfl rfl rfl ⟨_, rfl, .inl rfl⟩ ?_
        refine o1 rfl (det_pickF rfl rfl) rfl rfl trivial ?_
        refine o1 rfl (det_assign rfl) rfl rfl trivial ?_
        refine be rfl ?_
        refine k_then ?_
        refine t_ret (k_thenR (?_))
        refine ret_tmp rfl rfl rfl (fun w1 hs => ?_)
        exact ⟨by unfold sendOk; grind [noneP], hs.keep⟩
    ·
      refine on rfl rfl rfl ⟨_, rfl, .inl rfl⟩ ?_
      refine on rfl rfl rfl ⟨_, rfl, .inl rfl⟩ ?_
      refine on rfl rfl rfl ⟨_, rfl, .inl rfl⟩ ?_
      refine on rfl rfl rfl ⟨_, rfl, .inl rfl⟩ ?_
      refine on rfl rfl rfl ⟨_, rfl, .inl rfl⟩ ?_
      refine on rfl rfl rfl ⟨_, rfl, .inl rfl⟩ ?_
      refine o1 rfl (det_pickF rfl rfl) rfl rfl trivial ?_
      refine o1 rfl (det_move rfl) rfl rfl trivial ?_
      refine on rfl rfl rfl ⟨_, rfl, .inl rfl⟩ ?_
      refine on rfl rfl rfl ⟨_, rfl, .inl rfl⟩ ?_
      refine on rfl rfl rfl ⟨_, rfl, .inl rfl⟩ ?_
      refine on rfl rfl rfl ⟨_, rfl, .inl rfl⟩ ?_
      refine on rfl rfl rfl ⟨_, rfl, .inl rfl⟩ ?_
      refine on rfl rfl rfl ⟨_, rfl, .inl rfl⟩ ?_
      refine o1 rfl (det_pickF rfl rfl) rfl rfl trivial ?_
      refine o1 rfl (det_move rfl) rfl rfl trivial ?_
      refine on rfl rfl rfl ⟨_, rfl, .inl rfl⟩ ?_
      refine on rfl rfl rfl ⟨_, rfl, .inl rfl⟩ ?_
      refine on rfl rfl rfl ⟨_, rfl, .inl rfl⟩ ?_
      refine on rfl rfl rfl ⟨_, rfl, .inl rfl⟩ ?_
      refine on rfl rfl rfl ⟨_, rfl, .inl rfl⟩ ?_
      refine on rfl rfl rfl ⟨_, rfl, .inl rfl⟩ ?_
      refine o1 rfl (det_pickF rfl rfl) rfl rfl trivial ?_
      refine o1 rfl (det_assign rfl) rfl rfl trivial ?_
      refine be rfl ?_
      refine k_then ?_
      refine t_ret (k_thenR (?_))
      refine ret_tmp rfl rfl rfl (fun w1 hs => ?_)
      exact ⟨by unfold sendOk; grind [noneP], hs.keep⟩
  ·
    refine t_skip ?_
    refine k_then ?_
    refine t_seq ?_
    refine t_seq ?_
    refine bD mixed ?_
    refine r_seg 41 41 [] [0, 1, 2, 3, 4, 5, 6, 7, 8, 9, 10, 11, 12, 13, 14, 15, 16, 17, 18, 19, 20, 21, 22, 23, 24, 25, 26, 27, 28, 29, 30, 31, 32, 33, 34, 35, 36, 37, 38, 39, 40] (by kernel_rfl) ?_
    refine s1 rfl (det_move rfl) rfl rfl trivial rfl ?_
    refine s1 rfl (det_nilCheck rfl) rfl rfl trivial rfl ?_
    refine s1 rfl (det_fieldAddr fld125_0 rfl) rfl rfl trivial rfl ?_
    refine s1 rfl (det_fieldAddr fld68_4 rfl) rfl rfl trivial rfl ?_
    refine s1 rfl (det_loadKN tN57 rfl (r := ptv p.snd) rfl (cells_sub hg 7 (by decide) rfl)) rfl rfl trivial rfl ?_
    refine s1 rfl (det_call hb53 rfl rfl (fun w1 hs => cpart_at hs.know)) rfl rfl trivial rfl ?_
    refine s1 rfl (det_neq rfl rfl) rfl rfl trivial rfl ?_
    refine s2P bne_iff_ne rfl (det_move rfl) rfl rfl trivial rfl (fun hb => ?_) (fun hb => ?_)
    ·
      refine sn rfl rfl rfl ⟨_, rfl, .inl rfl⟩ ?_
      refine sn rfl rfl rfl ⟨_, rfl, .inl rfl⟩ ?_
      refine sn rfl rfl rfl ⟨_, rfl, .inl rfl⟩ ?_
      refine sn rfl rfl rfl ⟨_, rfl, .inl rfl⟩ ?_
      refine sn rfl rfl rfl ⟨_, rfl, .inl rfl⟩ ?_
      refine sn rfl rfl rfl ⟨_, rfl, .inl rfl⟩ ?_
      refine s1 rfl (det_pickT rfl rfl) rfl rfl trivial rfl ?_
      refine s1 rfl (det_move rfl) rfl rfl trivial rfl ?_
      refine sn rfl rfl rfl ⟨_, rfl, .inl rfl⟩ ?_
      refine sn rfl rfl rfl ⟨_, rfl, .inl rfl⟩ ?_
      refine sn rfl rfl rfl ⟨_, rfl, .inl rfl⟩ ?_
      refine sn rfl rfl rfl ⟨_, rfl, .inl rfl⟩ ?_
      refine sn rfl rfl rfl ⟨_, rfl, .inl rfl⟩ ?_
      refine sn rfl rfl rfl ⟨_, rfl, .inl rfl⟩ ?_
      refine sn rfl rfl rfl ⟨_, rfl, .inl rfl⟩ ?_
      refine sn rfl rfl rfl ⟨_, rfl, .inl rfl⟩ ?_
      refine sn rfl rfl rfl ⟨_, rfl, .inl rfl⟩ ?_
      refine sn rfl rfl rfl ⟨_, rfl, .inl rfl⟩ ?_
      refine sn rfl rfl rfl ⟨_, rfl, .inl rfl⟩ ?_
      refine s1 rfl (det_pickT rfl rfl) rfl rfl trivial rfl ?_
      refine s1 rfl (det_move rfl) rfl rfl trivial rfl ?_
      refine sn rfl rfl rfl ⟨_, rfl, .inl rfl⟩ ?_
      refine sn rfl rfl rfl ⟨_, rfl, .inl rfl⟩ ?_
      refine sn rfl rfl rfl ⟨_, rfl, .inl rfl⟩ ?_
      refine sn rfl rfl rfl ⟨_, rfl, .inl rfl⟩ ?_
      refine sn rfl rfl rfl ⟨_, rfl, .inl rfl⟩ ?_
      refine sn rfl rfl rfl ⟨_, rfl, .inl rfl⟩ ?_
      refine sn rfl rfl rfl ⟨_, rfl, .inl rfl⟩ ?_
      refine sn rfl rfl rfl ⟨_, rfl, .inl rfl⟩ ?_
      refine sn rfl rfl rfl ⟨_, rfl, .inl rfl⟩ ?_
      refine sn rfl rfl rfl ⟨_, rfl, .inl rfl⟩ ?_
      refine sn rfl rfl rfl ⟨_, rfl, .inl rfl⟩ ?_
      refine s1 rfl (det_pickT rfl rfl) rfl rfl trivial rfl ?_
      refine sg_nil ?_
      refine be rfl ?_
      refine k_then ?_
      refine t_condT rfl ?_
      refine t_seq ?_
      refine b0 ?_
      refine o1 rfl (det_assign rfl) rfl rfl trivial ?_
      refine be rfl ?_
      refine k_then ?_
      refine t_ret (k_thenR (?_))
      refine ret_tmp rfl rfl rfl (fun w1 hs => ?_)
      exact ⟨by unfold sendOk; grind [noneP], hs.keep⟩
    ·
      refine s1 rfl (det_move rfl) rfl rfl ⟨_, rfl, rfl⟩ rfl ?_
      refine s1 rfl (det_nilCheck rfl) rfl rfl ⟨_, rfl, rfl⟩ rfl ?_
      refine s1 rfl (det_fieldAddr fld125_0 rfl) rfl rfl ⟨_, rfl, rfl⟩ rfl ?_
      refine s1 rfl (det_fieldAddr fld68_5 rfl) rfl rfl ⟨_, rfl, rfl⟩ rfl ?_
      refine s1 rfl (det_loadK t1_3 rfl (hg 14 (by decide))) rfl rfl ⟨_, rfl, rfl⟩ rfl ?_
      refine s1 rfl (det_lss rfl rfl) rfl rfl ⟨_, rfl, rfl⟩ rfl ?_
      refine s1 rfl (det_pickF rfl rfl) rfl rfl trivial rfl ?_
      refine s2P decide_eq_true_iff rfl (det_move rfl) rfl rfl trivial rfl (fun hb => ?_) (fun hb => ?_)
      ·
        refine sn rfl rfl rfl ⟨_, rfl, .inl rfl⟩ ?_
        refine sn rfl rfl rfl ⟨_, rfl, .inl rfl⟩ ?_
        refine sn rfl rfl rfl ⟨_, rfl, .inl rfl⟩ ?_
        refine sn rfl rfl rfl ⟨_, rfl, .inl rfl⟩ ?_
        refine sn rfl rfl rfl ⟨_, rfl, .inl rfl⟩ ?_
        refine sn rfl rfl rfl ⟨_, rfl, .inl rfl⟩ ?_
        refine sn rfl rfl rfl ⟨_, rfl, .inl rfl⟩ ?_
        refine sn rfl rfl rfl ⟨_, rfl, .inl rfl⟩ ?_
        refine sn rfl rfl rfl ⟨_, rfl, .inl rfl⟩ ?_
        refine sn rfl rfl rfl ⟨_, rfl, .inl rfl⟩ ?_
        refine sn rfl rfl rfl ⟨_, rfl, .inl rfl⟩ ?_
        refine s1 rfl (det_pickT rfl rfl) rfl rfl trivial rfl ?_
        refine s1 rfl (det_move rfl) rfl rfl trivial rfl ?_
        refine sn rfl rfl rfl ⟨_, rfl, .inl rfl⟩ ?_
        refine sn rfl rfl rfl ⟨_, rfl, .inl rfl⟩ ?_
        refine sn rfl rfl rfl ⟨_, rfl, .inl rfl⟩ ?_
        refine sn rfl rfl rfl ⟨_, rfl, .inl rfl⟩ ?_
        refine sn rfl rfl rfl ⟨_, rfl, .inl rfl⟩ ?_
        refine sn rfl rfl rfl ⟨_, rfl, .inl rfl⟩ ?_
        refine sn rfl rfl rfl ⟨_, rfl, .inl rfl⟩ ?_
        refine sn rfl rfl rfl ⟨_, rfl, .inl rfl⟩ ?_
        refine sn rfl rfl rfl ⟨_, rfl, .inl rfl⟩ ?_
        refine sn rfl rfl rfl ⟨_, rfl, .inl rfl⟩ ?_
        refine sn rfl rfl rfl ⟨_, rfl, .inl rfl⟩ ?_
        refine s1 rfl (det_pickT rfl rfl) rfl rfl trivial rfl ?_
        refine sg_nil ?_
        refine be rfl ?_
        refine k_then ?_
        refine t_condT rfl ?_
        refine t_seq ?_
        refine b0 ?_
        refine o1 rfl (det_assign rfl) rfl rfl trivial ?_
        refine be rfl ?_
        refine k_then ?_
        refine t_ret (k_thenR (?_))
        refine ret_tmp rfl rfl rfl (fun w1 hs => ?_)
        exact ⟨by unfold sendOk; grind [noneP], hs.keep⟩
      ·
        refine s1 rfl (det_move rfl) rfl rfl ⟨_, rfl, rfl⟩ rfl ?_
        refine s1 rfl (det_nilCheck rfl) rfl rfl ⟨_, rfl, rfl⟩ rfl ?_
        refine s1 rfl (det_fieldAddr fld125_0 rfl) rfl rfl ⟨_, rfl, rfl⟩ rfl ?_
        refine s1 rfl (det_fieldAddr fld68_5 rfl) rfl rfl ⟨_, rfl, rfl⟩ rfl ?_
        refine s1 rfl (det_loadK t1_3 rfl (hg 14 (by decide))) rfl rfl ⟨_, rfl, rfl⟩ rfl ?_
        refine s1 rfl (det_move rfl) rfl rfl ⟨_, rfl, rfl⟩ rfl ?_
        refine s1 rfl (det_nilCheck rfl) rfl rfl ⟨_, rfl, rfl⟩ rfl ?_
        refine s1 rfl (det_fieldAddr fld125_0 rfl) rfl rfl ⟨_, rfl, rfl⟩ rfl ?_
        refine s1 rfl (det_fieldAddr fld68_1 rfl) rfl rfl ⟨_, rfl, rfl⟩ rfl ?_
        refine s1 rfl (det_loadK t1_3 rfl (hg 4 (by decide))) rfl rfl ⟨_, rfl, rfl⟩ rfl ?_
        refine s1 rfl (det_gtr rfl rfl) rfl rfl ⟨_, rfl, rfl⟩ rfl ?_
        refine s1 rfl (det_pickF rfl rfl) rfl rfl trivial rfl ?_
        refine s2P decide_eq_true_iff rfl (det_move rfl) rfl rfl trivial rfl (fun hb => ?_) (fun hb => ?_)
        ·
          refine sn rfl rfl rfl ⟨_, rfl, .inl rfl⟩ ?_
          refine sn rfl rfl rfl ⟨_, rfl, .inl rfl⟩ ?_
          refine sn rfl rfl rfl ⟨_, rfl, .inl rfl⟩ ?_
          refine sn rfl rfl rfl ⟨_, rfl, .inl rfl⟩ ?_
          refine sn rfl rfl rfl ⟨_, rfl, .inl rfl⟩ ?_
          refine sn rfl rfl rfl ⟨_, rfl, .inl rfl⟩ ?_
          refine sn rfl rfl rfl ⟨_, rfl, .inl rfl⟩ ?_
          refine sn rfl rfl rfl ⟨_, rfl, .inl rfl⟩ ?_
          refine sn rfl rfl rfl ⟨_, rfl, .inl rfl⟩ ?_
          refine sn rfl rfl rfl ⟨_, rfl, .inl rfl⟩ ?_
          refine sn rfl rfl rfl ⟨_, rfl, .inl rfl⟩ ?_
          refine s1 rfl (det_pickT rfl rfl) rfl rfl trivial rfl ?_
          refine sg_nil ?_
          refine be rfl ?_
          refine k_then ?_
          refine t_condT rfl ?_
          refine t_seq ?_
          refine b0 ?_
          refine o1 rfl (det_assign rfl) rfl rfl trivial ?_
          refine be rfl ?_
          refine k_then ?_
          refine t_ret (k_thenR (?_))
          refine ret_tmp rfl rfl rfl (fun w1 hs => ?_)
          exact ⟨by unfold sendOk; grind [noneP], hs.keep⟩
        ·
          refine s1 rfl (det_move rfl) rfl rfl ⟨_, rfl, rfl⟩ rfl ?_
          refine s1 rfl (det_nilCheck rfl) rfl rfl ⟨_, rfl, rfl⟩ rfl ?_
          refine s1 rfl (det_fieldAddr fld125_0 rfl) rfl rfl ⟨_, rfl, rfl⟩ rfl ?_
          refine s1 rfl (det_fieldAddr fld68_6 rfl) rfl rfl ⟨_, rfl, rfl⟩ rfl ?_
          refine s1 rfl (det_loadK t1_3 rfl (hg 15 (by decide))) rfl rfl ⟨_, rfl, rfl⟩ rfl ?_
          refine s1 rfl (det_move rfl) rfl rfl ⟨_, rfl, rfl⟩ rfl ?_
          refine s1 rfl (det_nilCheck rfl) rfl rfl ⟨_, rfl, rfl⟩ rfl ?_
          refine s1 rfl (det_fieldAddr fld125_0 rfl) rfl rfl ⟨_, rfl, rfl⟩ rfl ?_
          refine s1 rfl (det_fieldAddr fld68_1 rfl) rfl rfl ⟨_, rfl, rfl⟩ rfl ?_
          refine s1 rfl (det_loadK t1_3 rfl (hg 4 (by decide))) rfl rfl ⟨_, rfl, rfl⟩ rfl ?_
          refine s1 rfl (det_lss rfl rfl) rfl rfl ⟨_, rfl, rfl⟩ rfl ?_
          refine s1 rfl (det_pickF rfl rfl) rfl rfl trivial rfl ?_
          refine sg_nil ?_
          refine be rfl ?_
          refine k_then ?_
          refine t_condP decide_eq_true_iff rfl (fun hb => ?_) (fun hb => ?_)
          ·
            skip
            refine t_seq ?_
            refine b0 ?_
            refine o1 rfl (det_assign rfl) rfl rfl trivial ?_
            refine be rfl ?_
            refine k_then ?_
            refine t_ret (k_thenR (?_))
            refine ret_tmp rfl rfl rfl (fun w1 hs => ?_)
            exact ⟨by unfold sendOk; grind [noneP], hs.keep⟩
          ·
            have hok : okP p.snd = true := by grind
            have hlf := okP_bd hok
            refine t_skip ?_
            refine k_then ?_
            refine t_seq ?_
            refine t_seq ?_
            refine b0 ?_
            refine o1 rfl (det_move rfl) rfl rfl trivial ?_
            refine o1 rfl (det_nilCheck rfl) rfl rfl trivial ?_
            refine o1 rfl (det_fieldAddr fld125_0 rfl) rfl rfl trivial ?_
            refine o1 rfl (det_fieldAddr fld68_7 rfl) rfl rfl trivial ?_
            refine o1 rfl (det_loadK t1_3 rfl (hg 16 (by decide))) rfl rfl trivial ?_
            refine o1 rfl (det_eql rfl rfl) rfl rfl trivial ?_
            refine be rfl ?_
            refine k_then ?_
            refine t_condP beq_iff_eq rfl (fun hb => ?_) (fun hb => ?_)
            ·
              refine t_seq ?_
              refine bD mixed ?_
              refine r_seg 26 26 [] [0, 1, 2, 3, 4, 5, 6, 7, 8, 9, 10, 11, 12, 13, 14, 15, 16, 17, 18, 19, 20, 21, 22, 23, 24, 25] (by kernel_rfl) ?_
              refine s1 rfl (det_move rfl) rfl rfl trivial rfl ?_
              refine s1 rfl (det_nilCheck rfl) rfl rfl trivial rfl ?_
              refine s1 rfl (det_fieldAddr fld125_0 rfl) rfl rfl trivial rfl ?_
              refine s1 rfl (det_fieldAddr fld68_6 rfl) rfl rfl trivial rfl ?_
              refine s1 rfl (det_loadK t1_3 rfl (hg 15 (by decide))) rfl rfl trivial rfl ?_
              refine s1 rfl (det_move rfl) rfl rfl trivial rfl ?_
              refine s1 rfl (det_nilCheck rfl) rfl rfl trivial rfl ?_
              refine s1 rfl (det_fieldAddr fld125_0 rfl) rfl rfl trivial rfl ?_
              refine s1 rfl (det_fieldAddr fld68_5 rfl) rfl rfl trivial rfl ?_
              refine s1 rfl (det_loadK t1_3 rfl (hg 14 (by decide))) rfl rfl trivial rfl ?_
              refine s1 rfl (det_move rfl) rfl rfl trivial rfl ?_
              refine s1 rfl (det_nilCheck rfl) rfl rfl trivial rfl ?_
              refine s1 rfl (det_fieldAddr fld125_0 rfl) rfl rfl trivial rfl ?_
              refine s1 rfl (det_fieldAddr fld68_4 rfl) rfl rfl trivial rfl ?_
              refine s1 rfl (det_fieldAddr fld57_1 rfl) rfl rfl trivial rfl ?_
              refine s1 rfl (det_loadK t1_3 rfl (hg 12 (by decide))) rfl rfl trivial rfl ?_
              refine s1 rfl (det_move rfl) rfl rfl trivial rfl ?_
              refine s1 rfl (det_nilCheck rfl) rfl rfl trivial rfl ?_
              refine s1 rfl (det_fieldAddr fld125_0 rfl) rfl rfl trivial rfl ?_
              refine s1 rfl (det_fieldAddr fld68_0 rfl) rfl rfl trivial rfl ?_
              refine s1 rfl (det_fieldAddr fld26_1 rfl) rfl rfl trivial rfl ?_
              refine s1 rfl (det_loadK t1_3 rfl (hg 2 (by decide))) rfl rfl trivial rfl ?_
              have hm : 0 ≤ p.snd.left * p.l.per ∧ p.snd.left * p.l.per ≤ 1542 * 1000 := ⟨Int.mul_nonneg (by omega) (by omega), Int.mul_le_mul hlf.2 hper.2 (by omega) (by decide)⟩
              first | (refine s1 rfl (det_mulI rfl rfl ?_) rfl rfl trivial rfl ?_; (· omega)) | refine s1 rfl (det_mul rfl rfl) rfl rfl trivial rfl ?_
              first | (refine s1 rfl (det_addI rfl rfl ?_) rfl rfl trivial rfl ?_; (· omega)) | refine s1 rfl (det_add rfl rfl) rfl rfl trivial rfl ?_
              refine s1 rfl (det_eql rfl rfl) rfl rfl trivial rfl ?_
              refine s1 rfl (det_assign rfl) rfl rfl trivial rfl ?_
              refine sg_nil ?_
              refine be rfl ?_
              refine k_then ?_
              refine t_ret (k_thenR (?_))
              refine ret_tmp rfl rfl rfl (fun w1 hs => ?_)
              exact ⟨by unfold sendOk; grind [noneP], hs.keep⟩
            ·
              refine t_skip ?_
              refine k_then ?_
              refine t_seq ?_
              refine bD mixed ?_
              refine r_seg 65 65 [] [0, 1, 2, 3, 4, 5, 6, 7, 8, 9, 10, 11, 12, 13, 14, 15, 16, 17, 18, 19, 20, 21, 22, 23, 24, 25, 26, 27, 28, 29, 30, 31, 32, 33, 34, 35, 36, 37, 38, 39, 40, 41, 42, 43, 44, 45, 46, 47, 48, 49, 50, 51, 52, 53, 54, 55, 56, 57, 58, 59, 60, 61, 62, 63, 64] (by kernel_rfl) ?_
              refine s1 rfl (det_move rfl) rfl rfl trivial rfl ?_
              refine s1 rfl (det_nilCheck rfl) rfl rfl trivial rfl ?_
              refine s1 rfl (det_fieldAddr fld125_0 rfl) rfl rfl trivial rfl ?_
              refine s1 rfl (det_fieldAddr fld68_4 rfl) rfl rfl trivial rfl ?_
              refine s1 rfl (det_loadKN tN57 rfl (r := ptv p.snd) rfl (cells_sub hg 7 (by decide) rfl)) rfl rfl trivial rfl ?_
              refine s1 rfl (det_call hb72 rfl rfl (fun w1 hs => pre1_ok hs.know)) rfl rfl trivial rfl ?_
              refine s2P Iff.rfl rfl (det_move rfl) rfl rfl trivial rfl (fun hb => ?_) (fun hb => ?_)
              ·
                refine s1 rfl (det_move rfl) rfl rfl ⟨_, rfl, rfl⟩ rfl ?_
                refine s1 rfl (det_nilCheck rfl) rfl rfl ⟨_, rfl, rfl⟩ rfl ?_
                refine s1 rfl (det_fieldAddr fld125_0 rfl) rfl rfl ⟨_, rfl, rfl⟩ rfl ?_
                refine s1 rfl (det_fieldAddr fld68_7 rfl) rfl rfl ⟨_, rfl, rfl⟩ rfl ?_
                refine s1 rfl (det_loadK t1_3 rfl (hg 16 (by decide))) rfl rfl ⟨_, rfl, rfl⟩ rfl ?_
                refine s1 rfl (det_geq rfl rfl) rfl rfl ⟨_, rfl, rfl⟩ rfl ?_
                refine s1 rfl (det_pickT rfl rfl) rfl rfl trivial rfl ?_
                refine s2P decide_eq_true_iff rfl (det_move rfl) rfl rfl trivial rfl (fun hb => ?_) (fun hb => ?_)
                ·
                  refine s1 rfl (det_move rfl) rfl rfl ⟨_, rfl, rfl⟩ rfl ?_
                  refine s1 rfl (det_nilCheck rfl) rfl rfl ⟨_, rfl, rfl⟩ rfl ?_
                  refine s1 rfl (det_fieldAddr fld125_0 rfl) rfl rfl ⟨_, rfl, rfl⟩ rfl ?_
                  refine s1 rfl (det_fieldAddr fld68_7 rfl) rfl rfl ⟨_, rfl, rfl⟩ rfl ?_
                  refine s1 rfl (det_loadK t1_3 rfl (hg 16 (by decide))) rfl rfl ⟨_, rfl, rfl⟩ rfl ?_
                  refine s1 rfl (det_move rfl) rfl rfl ⟨_, rfl, rfl⟩ rfl ?_
                  refine s1 rfl (det_nilCheck rfl) rfl rfl ⟨_, rfl, rfl⟩ rfl ?_
                  refine s1 rfl (det_fieldAddr fld125_0 rfl) rfl rfl ⟨_, rfl, rfl⟩ rfl ?_
                  refine s1 rfl (det_fieldAddr fld68_4 rfl) rfl rfl ⟨_, rfl, rfl⟩ rfl ?_
                  refine s1 rfl (det_fieldAddr fld57_1 rfl) rfl rfl ⟨_, rfl, rfl⟩ rfl ?_
                  refine s1 rfl (det_loadK t1_3 rfl (hg 12 (by decide))) rfl rfl ⟨_, rfl, rfl⟩ rfl ?_
                  first | (refine s1 rfl (det_subI rfl rfl ?_) rfl rfl ⟨_, rfl, rfl⟩ rfl ?_; (· omega)) | refine s1 rfl (det_sub rfl rfl) rfl rfl ⟨_, rfl, rfl⟩ rfl ?_
                  first | (refine s1 rfl (det_addI rfl rfl ?_) rfl rfl ⟨_, rfl, rfl⟩ rfl ?_; (· omega)) | refine s1 rfl (det_add rfl rfl) rfl rfl ⟨_, rfl, rfl⟩ rfl ?_
                  refine s1 rfl (det_leq rfl rfl) rfl rfl ⟨_, rfl, rfl⟩ rfl ?_
                  refine s1 rfl (det_pickT rfl rfl) rfl rfl trivial rfl ?_
                  refine s2P decide_eq_true_iff rfl (det_move rfl) rfl rfl trivial rfl (fun hb => ?_) (fun hb => ?_)
                  ·
                    refine s1 rfl (det_move rfl) rfl rfl ⟨_, rfl, rfl⟩ rfl ?_
                    refine s1 rfl (det_nilCheck rfl) rfl rfl ⟨_, rfl, rfl⟩ rfl ?_
                    refine s1 rfl (det_fieldAddr fld125_0 rfl) rfl rfl ⟨_, rfl, rfl⟩ rfl ?_
                    refine s1 rfl (det_fieldAddr fld68_6 rfl) rfl rfl ⟨_, rfl, rfl⟩ rfl ?_
                    refine s1 rfl (det_loadK t1_3 rfl (hg 15 (by decide))) rfl rfl ⟨_, rfl, rfl⟩ rfl ?_
                    refine s1 rfl (det_move rfl) rfl rfl ⟨_, rfl, rfl⟩ rfl ?_
                    refine s1 rfl (det_nilCheck rfl) rfl rfl ⟨_, rfl, rfl⟩ rfl ?_
                    refine s1 rfl (det_fieldAddr fld125_0 rfl) rfl rfl ⟨_, rfl, rfl⟩ rfl ?_
                    refine s1 rfl (det_fieldAddr fld68_5 rfl) rfl rfl ⟨_, rfl, rfl⟩ rfl ?_
                    refine s1 rfl (det_loadK t1_3 rfl (hg 14 (by decide))) rfl rfl ⟨_, rfl, rfl⟩ rfl ?_
                    refine s1 rfl (det_move rfl) rfl rfl ⟨_, rfl, rfl⟩ rfl ?_
                    refine s1 rfl (det_nilCheck rfl) rfl rfl ⟨_, rfl, rfl⟩ rfl ?_
                    refine s1 rfl (det_fieldAddr fld125_0 rfl) rfl rfl ⟨_, rfl, rfl⟩ rfl ?_
                    refine s1 rfl (det_fieldAddr fld68_4 rfl) rfl rfl ⟨_, rfl, rfl⟩ rfl ?_
                    refine s1 rfl (det_fieldAddr fld57_1 rfl) rfl rfl ⟨_, rfl, rfl⟩ rfl ?_
                    refine s1 rfl (det_loadK t1_3 rfl (hg 12 (by decide))) rfl rfl ⟨_, rfl, rfl⟩ rfl ?_
                    refine s1 rfl (det_move rfl) rfl rfl ⟨_, rfl, rfl⟩ rfl ?_
                    refine s1 rfl (det_nilCheck rfl) rfl rfl ⟨_, rfl, rfl⟩ rfl ?_
                    refine s1 rfl (det_fieldAddr fld125_0 rfl) rfl rfl ⟨_, rfl, rfl⟩ rfl ?_
                    refine s1 rfl (det_fieldAddr fld68_7 rfl) rfl rfl ⟨_, rfl, rfl⟩ rfl ?_
                    refine s1 rfl (det_loadK t1_3 rfl (hg 16 (by decide))) rfl rfl ⟨_, rfl, rfl⟩ rfl ?_
                    first | (refine s1 rfl (det_subI rfl rfl ?_) rfl rfl ⟨_, rfl, rfl⟩ rfl ?_; (· omega)) | refine s1 rfl (det_sub rfl rfl) rfl rfl ⟨_, rfl, rfl⟩ rfl ?_
                    first | (refine s1 rfl (det_addI rfl rfl ?_) rfl rfl ⟨_, rfl, rfl⟩ rfl ?_; (· omega)) | refine s1 rfl (det_add rfl rfl) rfl rfl ⟨_, rfl, rfl⟩ rfl ?_
                    refine s1 rfl (det_move rfl) rfl rfl ⟨_, rfl, rfl⟩ rfl ?_
                    refine s1 rfl (det_nilCheck rfl) rfl rfl ⟨_, rfl, rfl⟩ rfl ?_
                    refine s1 rfl (det_fieldAddr fld125_0 rfl) rfl rfl ⟨_, rfl, rfl⟩ rfl ?_
                    refine s1 rfl (det_fieldAddr fld68_0 rfl) rfl rfl ⟨_, rfl, rfl⟩ rfl ?_
                    refine s1 rfl (det_fieldAddr fld26_1 rfl) rfl rfl ⟨_, rfl, rfl⟩ rfl ?_
                    refine s1 rfl (det_loadK t1_3 rfl (hg 2 (by decide))) rfl rfl ⟨_, rfl, rfl⟩ rfl ?_
                    have hm : 0 ≤ (p.snd.left - p.rest + 48) * p.l.per ∧ (p.snd.left - p.rest + 48) * p.l.per ≤ 1550 * 1000 := ⟨Int.mul_nonneg (by omega) (by omega), Int.mul_le_mul (by omega) hper.2 (by omega) (by decide)⟩
                    first | (refine s1 rfl (det_mulI rfl rfl ?_) rfl rfl ⟨_, rfl, rfl⟩ rfl ?_; (· omega)) | refine s1 rfl (det_mul rfl rfl) rfl rfl ⟨_, rfl, rfl⟩ rfl ?_
                    first | (refine s1 rfl (det_addI rfl rfl ?_) rfl rfl ⟨_, rfl, rfl⟩ rfl ?_; (· omega)) | refine s1 rfl (det_add rfl rfl) rfl rfl ⟨_, rfl, rfl⟩ rfl ?_
                    refine s1 rfl (det_eql rfl rfl) rfl rfl ⟨_, rfl, rfl⟩ rfl ?_
                    refine s1 rfl (det_pickT rfl rfl) rfl rfl trivial rfl ?_
                    refine s1 rfl (det_assign rfl) rfl rfl trivial rfl ?_
                    refine sg_nil ?_
                    refine be rfl ?_
                    refine k_then ?_
                    refine t_ret ?_
                    refine ret_tmp rfl rfl rfl (fun w1 hs => ?_)
                    exact ⟨by unfold sendOk; grind [noneP], hs.keep⟩
                  ·
                    refine sn rfl rfl rfl ⟨_, rfl, .inl rfl⟩ ?_
                    refine sn rfl rfl rfl ⟨_, rfl, .inl rfl⟩ ?_
                    refine sn rfl rfl rfl ⟨_, rfl, .inl rfl⟩ ?_
                    refine sn rfl rfl rfl ⟨_, rfl, .inl rfl⟩ ?_
                    refine sn rfl rfl rfl ⟨_, rfl, .inl rfl⟩ ?_
                    refine sn rfl rfl rfl ⟨_, rfl, .inl rfl⟩ ?_
                    refine sn rfl rfl rfl ⟨_, rfl, .inl rfl⟩ ?_
                    refine sn rfl rfl rfl ⟨_, rfl, .inl rfl⟩ ?_
                    refine sn rfl rfl rfl ⟨_, rfl, .inl rfl⟩ ?_
                    refine sn rfl rfl rfl ⟨_, rfl, .inl rfl⟩ ?_
                    refine sn rfl rfl rfl ⟨_, rfl, .inl rfl⟩ ?_
                    refine sn rfl rfl rfl ⟨_, rfl, .inl rfl⟩ ?_
                    refine sn rfl rfl rfl ⟨_, rfl, .inl rfl⟩ ?_
                    refine sn rfl rfl rfl ⟨_, rfl, .inl rfl⟩ ?_
                    refine sn rfl rfl rfl ⟨_, rfl, .inl rfl⟩ ?_
                    refine sn rfl rfl rfl ⟨_, rfl, .inl rfl⟩ ?_
                    refine sn rfl rfl rfl ⟨_, rfl, .inl rfl⟩ ?_
                    refine sn rfl rfl rfl ⟨_, rfl, .inl rfl⟩ ?_
                    refine sn rfl rfl rfl ⟨_, rfl, .inl rfl⟩ ?_
                    refine sn rfl rfl rfl ⟨_, rfl, .inl rfl⟩ ?_
                    refine sn rfl rfl rfl ⟨_, rfl, .inl rfl⟩ ?_
                    refine sn rfl rfl rfl ⟨_, rfl, .inl rfl⟩ ?_
                    refine sn rfl rfl rfl ⟨_, rfl, .inl rfl⟩ ?_
                    refine sn rfl rfl rfl ⟨_, rfl, .inl rfl⟩ ?_
                    refine sn rfl rfl rfl ⟨_, rfl, .inl rfl⟩ ?_
                    refine sn rfl rfl rfl ⟨_, rfl, .inl rfl⟩ ?_
                    refine sn rfl rfl rfl ⟨_, rfl, .inl rfl⟩ ?_
                    refine sn rfl rfl rfl ⟨_, rfl, .inl rfl⟩ ?_
                    refine sn rfl rfl rfl ⟨_, rfl, .inl rfl⟩ ?_
                    refine sn rfl rfl rfl ⟨_, rfl, .inl rfl⟩ ?_
                    refine sn rfl rfl rfl ⟨_, rfl, .inl rfl⟩ ?_
                    refine sn rfl rfl rfl ⟨_, rfl, .inl rfl⟩ ?_
                    refine s1 rfl (det_pickF rfl rfl) rfl rfl trivial rfl ?_
                    refine s1 rfl (det_assign rfl) rfl rfl trivial rfl ?_
                    refine sg_nil ?_
                    refine be rfl ?_
                    refine k_then ?_
                    refine t_ret ?_
                    refine ret_tmp rfl rfl rfl (fun w1 hs => ?_)
                    exact ⟨by unfold sendOk; grind [noneP], hs.keep⟩
                ·
                  refine sn rfl rfl rfl ⟨_, rfl, .inl rfl⟩ ?_
                  refine sn rfl rfl rfl ⟨_, rfl, .inl rfl⟩ ?_
                  refine sn rfl rfl rfl ⟨_, rfl, .inl rfl⟩ ?_
                  refine sn rfl rfl rfl ⟨_, rfl, .inl rfl⟩ ?_
                  refine sn rfl rfl rfl ⟨_, rfl, .inl rfl⟩ ?_
                  refine sn rfl rfl rfl ⟨_, rfl, .inl rfl⟩ ?_
                  refine sn rfl rfl rfl ⟨_, rfl, .inl rfl⟩ ?_
                  refine sn rfl rfl rfl ⟨_, rfl, .inl rfl⟩ ?_
                  refine sn rfl rfl rfl ⟨_, rfl, .inl rfl⟩ ?_
                  refine sn rfl rfl rfl ⟨_, rfl, .inl rfl⟩ ?_
                  refine sn rfl rfl rfl ⟨_, rfl, .inl rfl⟩ ?_
                  refine sn rfl rfl rfl ⟨_, rfl, .inl rfl⟩ ?_
                  refine sn rfl rfl rfl ⟨_, rfl, .inl rfl⟩ ?_
                  refine sn rfl rfl rfl ⟨_, rfl, .inl rfl⟩ ?_
                  refine s1 rfl (det_pickF rfl rfl) rfl rfl trivial rfl ?_
                  refine s1 rfl (det_move rfl) rfl rfl trivial rfl ?_
                  refine sn rfl rfl rfl ⟨_, rfl, .inl rfl⟩ ?_
                  refine sn rfl rfl rfl ⟨_, rfl, .inl rfl⟩ ?_
                  refine sn rfl rfl rfl ⟨_, rfl, .inl rfl⟩ ?_
                  refine sn rfl rfl rfl ⟨_, rfl, .inl rfl⟩ ?_
                  refine sn rfl rfl rfl ⟨_, rfl, .inl rfl⟩ ?_
                  refine sn rfl rfl rfl ⟨_, rfl, .inl rfl⟩ ?_
                  refine sn rfl rfl rfl ⟨_, rfl, .inl rfl⟩ ?_
                  refine sn rfl rfl rfl ⟨_, rfl, .inl rfl⟩ ?_
                  refine sn rfl rfl rfl ⟨_, rfl, .inl rfl⟩ ?_
                  refine sn rfl rfl rfl ⟨_, rfl, .inl rfl⟩ ?_
                  refine sn rfl rfl rfl ⟨_, rfl, .inl rfl⟩ ?_
                  refine sn rfl rfl rfl ⟨_, rfl, .inl rfl⟩ ?_
                  refine sn rfl rfl rfl ⟨_, rfl, .inl rfl⟩ ?_
                  refine sn rfl rfl rfl ⟨_, rfl, .inl rfl⟩ ?_
                  refine sn rfl rfl rfl ⟨_, rfl, .inl rfl⟩ ?_
                  refine sn rfl rfl rfl ⟨_, rfl, .inl rfl⟩ ?_
                  refine sn rfl rfl rfl ⟨_, rfl, .inl rfl⟩ ?_
                  refine sn rfl rfl rfl ⟨_, rfl, .inl rfl⟩ ?_
                  refine sn rfl rfl rfl ⟨_, rfl, .inl rfl⟩ ?_
                  refine sn rfl rfl rfl ⟨_, rfl, .inl rfl⟩ ?_
                  refine sn rfl rfl rfl ⟨_, rfl, .inl rfl⟩ ?_
                  refine sn rfl rfl rfl ⟨_, rfl, .inl rfl⟩ ?_
                  refine sn rfl rfl rfl ⟨_, rfl, .inl rfl⟩ ?_
                  refine sn rfl rfl rfl ⟨_, rfl, .inl rfl⟩ ?_
                  refine sn rfl rfl rfl ⟨_, rfl, .inl rfl⟩ ?_
                  refine sn rfl rfl rfl ⟨_, rfl, .inl rfl⟩ ?_
                  refine sn rfl rfl rfl ⟨_, rfl, .inl rfl⟩ ?_
                  refine sn rfl rfl rfl ⟨_, rfl, .inl rfl⟩ ?_
                  refine sn rfl rfl rfl ⟨_, rfl, .inl rfl⟩ ?_
                  refine sn rfl rfl rfl ⟨_, rfl, .inl rfl⟩ ?_
                  refine sn rfl rfl rfl ⟨_, rfl, .inl rfl⟩ ?_
                  refine sn rfl rfl rfl ⟨_, rfl, .inl rfl⟩ ?_
                  refine s1 rfl (det_pickF rfl rfl) rfl rfl trivial rfl ?_
                  refine s1 rfl (det_assign rfl) rfl rfl trivial rfl ?_
                  refine sg_nil ?_
                  refine be rfl ?_
                  refine k_then ?_
                  refine t_ret ?_
                  refine ret_tmp rfl rfl rfl (fun w1 hs => ?_)
                  exact ⟨by unfold sendOk; grind [noneP], hs.keep⟩
              ·
                refine sn rfl rfl rfl ⟨_, rfl, .inl rfl⟩ ?_
                refine sn rfl rfl rfl ⟨_, rfl, .inl rfl⟩ ?_
                refine sn rfl rfl rfl ⟨_, rfl, .inl rfl⟩ ?_
                refine sn rfl rfl rfl ⟨_, rfl, .inl rfl⟩ ?_
                refine sn rfl rfl rfl ⟨_, rfl, .inl rfl⟩ ?_
                refine sn rfl rfl rfl ⟨_, rfl, .inl rfl⟩ ?_
                refine s1 rfl (det_pickF rfl rfl) rfl rfl trivial rfl ?_
                refine s1 rfl (det_move rfl) rfl rfl trivial rfl ?_
                refine sn rfl rfl rfl ⟨_, rfl, .inl rfl⟩ ?_
                refine sn rfl rfl rfl ⟨_, rfl, .inl rfl⟩ ?_
                refine sn rfl rfl rfl ⟨_, rfl, .inl rfl⟩ ?_
                refine sn rfl rfl rfl ⟨_, rfl, .inl rfl⟩ ?_
                refine sn rfl rfl rfl ⟨_, rfl, .inl rfl⟩ ?_
                refine sn rfl rfl rfl ⟨_, rfl, .inl rfl⟩ ?_
                refine sn rfl rfl rfl ⟨_, rfl, .inl rfl⟩ ?_
                refine sn rfl rfl rfl ⟨_, rfl, .inl rfl⟩ ?_
                refine sn rfl rfl rfl ⟨_, rfl, .inl rfl⟩ ?_
                refine sn rfl rfl rfl ⟨_, rfl, .inl rfl⟩ ?_
                refine sn rfl rfl rfl ⟨_, rfl, .inl rfl⟩ ?_
                refine sn rfl rfl rfl ⟨_, rfl, .inl rfl⟩ ?_
                refine sn rfl rfl rfl ⟨_, rfl, .inl rfl⟩ ?_
                refine sn rfl rfl rfl ⟨_, rfl, .inl rfl⟩ ?_
                refine s1 rfl (det_pickF rfl rfl) rfl rfl trivial rfl ?_
                refine s1 rfl (det_move rfl) rfl rfl trivial rfl ?_
                refine sn rfl rfl rfl ⟨_, rfl, .inl rfl⟩ ?_
                refine sn rfl rfl rfl ⟨_, rfl, .inl rfl⟩ ?_
                refine sn rfl rfl rfl ⟨_, rfl, .inl rfl⟩ ?_
                refine sn rfl rfl rfl ⟨_, rfl, .inl rfl⟩ ?_
                refine sn rfl rfl rfl ⟨_, rfl, .inl rfl⟩ ?_
                refine sn rfl rfl rfl ⟨_, rfl, .inl rfl⟩ ?_
                refine sn rfl rfl rfl ⟨_, rfl, .inl rfl⟩ ?_
                refine sn rfl rfl rfl ⟨_, rfl, .inl rfl⟩ ?_
                refine sn rfl rfl rfl ⟨_, rfl, .inl rfl⟩ ?_
                refine sn rfl rfl rfl ⟨_, rfl, .inl rfl⟩ ?_
                refine sn rfl rfl rfl ⟨_, rfl, .inl rfl⟩ ?_
                refine sn rfl rfl rfl ⟨_, rfl, .inl rfl⟩ ?_
                refine sn rfl rfl rfl ⟨_, rfl, .inl rfl⟩ ?_
                refine sn rfl rfl rfl ⟨_, rfl, .inl rfl⟩ ?_
                refine sn rfl rfl rfl ⟨_, rfl, .inl rfl⟩ ?_
                refine sn rfl rfl rfl ⟨_, rfl, .inl rfl⟩ ?_
                refine sn rfl rfl rfl ⟨_, rfl, .inl rfl⟩ ?_
                refine sn rfl rfl rfl ⟨_, rfl, .inl rfl⟩ ?_
                refine sn rfl rfl rfl ⟨_, rfl, .inl rfl⟩ ?_
                refine sn rfl rfl rfl ⟨_, rfl, .inl rfl⟩ ?_
                refine sn rfl rfl rfl ⟨_, rfl, .inl rfl⟩ ?_
                refine sn rfl rfl rfl ⟨_, rfl, .inl rfl⟩ ?_
                refine sn rfl rfl rfl ⟨_, rfl, .inl rfl⟩ ?_
                refine sn rfl rfl rfl ⟨_, rfl, .inl rfl⟩ ?_
                refine sn rfl rfl rfl ⟨_, rfl, .inl rfl⟩ ?_
                refine sn rfl rfl rfl ⟨_, rfl, .inl rfl⟩ ?_
                refine sn rfl rfl rfl ⟨_, rfl, .inl rfl⟩ ?_
                refine sn rfl rfl rfl ⟨_, rfl, .inl rfl⟩ ?_
                refine sn rfl rfl rfl ⟨_, rfl, .inl rfl⟩ ?_
                refine sn rfl rfl rfl ⟨_, rfl, .inl rfl⟩ ?_
                refine sn rfl rfl rfl ⟨_, rfl, .inl rfl⟩ ?_
                refine sn rfl rfl rfl ⟨_, rfl, .inl rfl⟩ ?_
                refine s1 rfl (det_pickF rfl rfl) rfl rfl trivial rfl ?_
                refine s1 rfl (det_assign rfl) rfl rfl trivial rfl ?_
                refine sg_nil ?_
                refine be rfl ?_
                refine k_then ?_
                refine t_ret ?_
                refine ret_tmp rfl rfl rfl (fun w1 hs => ?_)
                exact ⟨by unfold sendOk; grind [noneP], hs.keep⟩
theorem citem_at {w : World} {F : Know} (hF : ∀ a v, F a = some v → w.cell? a = some v) {x : It} : Pure Try.prog 77 [.agg (itv x).toArray] w (.int .i64 (if okI x then 0 else 460)) := citem_ok hF
end Go.Proofs.Cp

/-
  Walks through layer 38.
-/
namespace Go.Proofs.Cp
open Go Go.Eng Go.Gt Go.Proofs.Gt Go.Sw Go.Qu Go.Ch Go.Po
set_option maxRecDepth 4000
section
variable {cx : Cx} {F : Know} {own : Own} {w : World}
theorem satC (hs : Sat cx F own w) {q : Nat} {cs : List Value} {T : TypeId} (hm : (q, Obj.cells cs.toArray T (0, 0)) ∈ own) (j : Nat) {u : Value} (hu : cs[j]? = some u) : w.cell? ⟨q, j, none⟩ = some u := by
  have h := hs.own _ hm
  simp [World.cell?, h, hu]
theorem satCs (hs : Sat cx F own w) {q N : Nat} {cs : List Value} {T : TypeId} (hm : (q, Obj.cells cs.toArray T (0, 0)) ∈ own) (hN : cs.length = N) : ∀ j, j < N → (fun a => w.cell? a) ((⟨q, 0, none⟩ : Addr).add j) = cs[j]? := fun j hj => by
  obtain ⟨u, hu⟩ : ∃ u, cs[j]? = some u := ⟨_, List.getElem?_eq_getElem (by rw [hN]; exact hj)⟩
  rw [hu, add_mk, Nat.zero_add]
  exact satC hs hm j hu
end
theorem ck1_ok {w : World} {F : Know} (hF : ∀ a v, F a = some v → w.cell? a = some v) {x : Pt} {q : Nat} {cl : Int} (h1 : F ⟨q, 0, none⟩ = some (.int .i64 cl)) : Pure Try.prog 75 [.agg (ptv x).toArray, .pointer (some ⟨q, 0, none⟩)] w (.bool (decide (x.it.cl ≠ cl))) := by
  refine fn_pure (F := F) Try.func75 rfl Try.ntmps75 rfl hF ?_
  refine t_seq ?_
  refine b0 ?_
  refine om1 rfl (new_boxN rfl) rfl rfl trivial (fun p2 => ?_)
  refine o1 rfl (det_assign rfl) rfl rfl trivial ?_
  refine be rfl ?_
  refine k_then ?_
  refine t_seq ?_
  refine b0 ?_
  refine o1 rfl (det_fieldAddr fld57_0 rfl) rfl rfl trivial ?_
  refine o1 rfl (det_fieldAddr fld55_2 rfl) rfl rfl trivial ?_
  refine o1 rfl (det_load1 t1_3 rfl rfl (.head _) rfl) rfl rfl trivial ?_
  refine o1 rfl (det_loadK t1_3 rfl h1) rfl rfl trivial ?_
  refine o1 rfl (det_neq rfl rfl) rfl rfl trivial ?_
  refine o1 rfl (det_assign rfl) rfl rfl trivial ?_
  refine be rfl ?_
  refine k_then ?_
  refine t_ret ?_
  refine ret_tmp rfl rfl rfl (fun w1 hs => ?_)
  exact ⟨by grind, hs.keep⟩
theorem idx_ok {w : World} {F : Know} (hF : ∀ a v, F a = some v → w.cell? a = some v) {A : Option Addr} {n c : Nat} {ps : List Pt} (hP : PK F A n ps) (hnb : n ≤ 65536) {q : Nat} {cl : Int} (h1 : F ⟨q, 0, none⟩ = some (.int .i64 cl)) : Pure Try.prog 99 [.slice A n c, .func (.func 75) [].toArray [.pointer (some ⟨q, 0, none⟩)].toArray] w (.int .i64 (idxF cl ps 0)) := by
  refine fn_pure (F := F) Try.func99 rfl Try.ntmps99 rfl hF ?_
  refine t_seq ?_
  refine b0 ?_
  refine o1 rfl (det_assign rfl) rfl rfl trivial ?_
  refine be rfl ?_
  refine k_then ?_
  refine t_seq ?_
  refine t_seq ?_
  refine b0 ?_
  refine o1 rfl (det_move rfl) rfl rfl trivial ?_
  refine o1 rfl (det_lenS sl27 rfl) rfl rfl trivial ?_
  refine o1 rfl (det_move rfl) rfl rfl trivial ?_
  refine be rfl ?_
  refine k_then ?_
  refine t_block ?_
  refine t_whileM (σ := Nat) (fun s => [(8, .int .i64 (s : Int))]) (fun _ => _) (fun s => n - s) (fun s => s ≤ n ∧ ∀ j, j < s → (atP ps j).it.cl = cl) 0 (env0 := [(0, _), (1, _), (7, _)]) ⟨Nat.zero_le _, fun j hj => absurd hj (Nat.not_lt_zero j)⟩ ⟨rfl, trivial⟩ ⟨rfl, rfl, rfl, trivial⟩ (.refl _) ?_
  rintro s ⟨hsn, hI⟩
  have hnl := hP.len
  refine t_seq ?_
  refine b0 ?_
  refine o1 rfl (det_lss rfl rfl) rfl rfl trivial ?_
  refine be rfl ?_
  refine k_then ?_
  refine t_seq ?_
  refine t_condP decide_eq_true_iff rfl (fun hb => ?_) (fun hb => ?_)
  ·
    have hlt : s < ps.length := by omega
    obtain ⟨A, rfl⟩ := hP.some hlt
    have hat := atP_get hlt
    refine t_skip ?_
    refine k_then ?_
    refine t_seq ?_
    refine t_block ?_
    refine t_seq ?_
    refine b0 ?_
    refine o1 rfl (det_move rfl) rfl rfl trivial ?_
    refine o1 rfl (det_assign rfl) rfl rfl trivial ?_
    refine be rfl ?_
    refine k_then ?_
    refine t_seq ?_
    refine b0 ?_
    refine o1 rfl (det_move rfl) rfl rfl trivial ?_
    refine o1 rfl (det_move rfl) rfl rfl trivial ?_
    refine o1 rfl (det_move rfl) rfl rfl trivial ?_
    first | (refine o1 rfl (det_indexAddr sl27 rfl rfl ?_) rfl rfl trivial ?_; (· (first | decide | omega)))
    refine o1 rfl (det_loadKN tN57 rfl (ptv_len ps[s]) (hP.cells (i := (s : Int)) (k := s) (Int.toNat_natCast s) hlt (ptv_len _))) rfl rfl trivial ?_
    refine o1 rfl (det_call hb75 rfl rfl (fun w1 hs => ck1_ok hs.know h1)) rfl rfl trivial ?_
    refine be rfl ?_
    refine k_then ?_
    refine t_condP Iff.rfl rfl (fun hb => ?_) (fun hb => ?_)
    ·
      refine t_seq ?_
      refine b0 ?_
      refine o1 rfl (det_move rfl) rfl rfl trivial ?_
      refine o1 rfl (det_assign rfl) rfl rfl trivial ?_
      refine be rfl ?_
      refine k_then ?_
      refine t_ret (k_blkR (k_thenR (k_thenR (k_blkR (k_thenR (?_))))))
      refine ret_tmp rfl rfl rfl (fun w1 hs => ?_)
      exact ⟨by rw [idxF_at ps 0 s hlt hI (by rw [hat]; grind), Nat.zero_add], hs.keep⟩
    ·
      refine t_skip ?_
      refine k_blk ?_
      refine k_then ?_
      refine b0 ?_
      first | (refine o1 rfl (det_addI rfl rfl ?_) rfl rfl trivial ?_; (· omega)) | refine o1 rfl (det_add rfl rfl) rfl rfl trivial ?_
      refine o1 rfl (det_move rfl) rfl rfl trivial ?_
      refine be rfl ?_
      refine k_then ?_
      refine loop_back (s + 1) ⟨by omega, fun j hj => by
          by_cases e : j = s
          · subst e; rw [hat]; grind
          · exact hI j (by omega)⟩ (by omega) ⟨rfl, rfl, rfl, rfl, trivial⟩ (.refl _)
  ·
    skip
    refine t_exit ?_
    refine k_thenE ?_
    refine k_thenE ?_
    refine k_blkE ?_
    refine k_then ?_
    refine t_seq ?_
    refine b0 ?_
    refine o1 rfl (det_assign rfl) rfl rfl trivial ?_
    refine be rfl ?_
    refine k_then ?_
    refine t_ret ?_
    refine ret_tmp rfl rfl rfl (fun w1 hs => ?_)
    exact ⟨by rw [idxF_all ps 0 (all_at fun j hj => hI j (by omega))], hs.keep⟩
theorem has_ok {w : World} {F : Know} (hF : ∀ a v, F a = some v → w.cell? a = some v) {A : Option Addr} {n c : Nat} {ps : List Pt} (hP : PK F A n ps) (hnb : n ≤ 65536) {q : Nat} {cl : Int} (h1 : F ⟨q, 0, none⟩ = some (.int .i64 cl)) : Pure Try.prog 74 [.slice A n c, .func (.func 75) [].toArray [.pointer (some ⟨q, 0, none⟩)].toArray] w (.bool (!(ps.all fun x => decide (x.it.cl = cl)))) := by
  refine fn_pure (F := F) Try.func74 rfl Try.ntmps74 rfl hF ?_
  refine t_seq ?_
  refine b0 ?_
  refine o1 rfl (det_assign rfl) rfl rfl trivial ?_
  refine be rfl ?_
  refine k_then ?_
  refine t_seq ?_
  refine b0 ?_
  refine o1 rfl (det_move rfl) rfl rfl trivial ?_
  refine o1 rfl (det_move rfl) rfl rfl trivial ?_
  refine o1 rfl (det_call hb99 rfl rfl (fun w1 hs => idx_ok hs.know hP hnb h1)) rfl rfl trivial ?_
  refine o1 rfl (det_geq rfl rfl) rfl rfl trivial ?_
  refine o1 rfl (det_assign rfl) rfl rfl trivial ?_
  refine be rfl ?_
  refine k_then ?_
  refine t_ret ?_
  refine ret_tmp rfl rfl rfl (fun w1 hs => ?_)
  exact ⟨by rw [← idxF_pos], hs.keep⟩
end Go.Proofs.Cp
