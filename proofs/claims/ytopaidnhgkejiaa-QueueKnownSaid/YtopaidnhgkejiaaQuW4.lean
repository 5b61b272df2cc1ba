/-
  Walks through layer 36 and its reference.
-/
import Derived.Test.YtopaidnhgkejiaaQuW3
namespace Go.Proofs.Qu
open Go Go.Eng Go.Qu
set_option maxRecDepth 4000

/-- octets. -/
theorem oct_ok {w : World} {F : Know} (hF : ∀ a v, F a = some v → w.cell? a = some v) {A : Option Addr} {n c : Nat} {cap : Int} {ps : List Pt} (hP : PK F A n ps) (hnb : n ≤ 65536) (hv : validP ps = true) : Pure Try.prog 31 [.agg [.int .i64 cap, .slice A n c].toArray] w (.int .i64 (octs ps)) := by
  refine fn_pure (F := F) Try.func31 rfl Try.ntmps31 rfl hF ?_
  refine t_seq ?_
  refine b0 ?_
  refine om1 rfl (new_boxN rfl) rfl rfl trivial (fun p1 => ?_)
  refine o1 rfl (det_assign rfl) rfl rfl trivial ?_
  refine be rfl ?_
  refine k_then ?_
  refine t_seq ?_
  refine b0 ?_
  refine o1 rfl (det_loadN tN66 rfl rfl (.head _) rfl) rfl rfl trivial ?_
  refine oF nofun rfl hb34 rfl rfl rfl trivial (fun w1 hs => (parts_ok hs.know).any) (fun v F1 hF1 hN1 ⟨p, hv1, h0, h1⟩ => ?_)
  subst hv1
  replace hP := hP.mono hF1
  have hlb : ∀ k, k < ps.length → 0 ≤ (atP ps k).left ∧ (atP ps k).left ≤ 65536 := fun k hk => by have := okP_bd (valid_bd hv hk); omega
  refine o1 rfl (det_call hb35 rfl rfl (fun w1 hs => sum_ok hs.know (parts_gives hP hnb h1) hlb (by rw [← hP.len]; exact hnb))) rfl rfl trivial ?_
  refine o1 rfl (det_assign rfl) rfl rfl trivial ?_
  refine be rfl ?_
  refine k_then ?_
  refine t_ret ?_
  refine ret_tmp rfl rfl rfl (fun w1 hs => ?_)
  exact ⟨rfl, hs.keep⟩

/-- valid. -/
theorem valid_ok {w : World} {F : Know} (hF : ∀ a v, F a = some v → w.cell? a = some v) {A : Option Addr} {n c : Nat} {cap : Int} {ps : List Pt} (hP : PK F A n ps) (hnb : n ≤ 65536) : Pure Try.prog 29 [.agg [.int .i64 cap, .slice A n c].toArray] w (.bool (validP ps)) := by
  refine fn_pure (F := F) Try.func29 rfl Try.ntmps29 rfl hF ?_
  refine t_seq ?_
  refine b0 ?_
  refine om1 rfl (new_boxN rfl) rfl rfl trivial (fun p1 => ?_)
  refine o1 rfl (det_assign rfl) rfl rfl trivial ?_
  refine be rfl ?_
  refine k_then ?_
  refine t_scope0 ?_
  refine t_seq ?_
  refine b0 ?_
  refine om1 rfl (new_alloc z4) rfl rfl trivial (fun p3 => ?_)
  refine st1 nofun rfl t1_4 rfl rfl rfl .head rfl trivial rfl ?_
  refine be rfl ?_
  refine k_then ?_
  refine t_seq ?_
  refine t_label ?_
  refine k_then ?_
  refine t_seq ?_
  refine t_seq ?_
  refine b0 ?_
  refine o1 rfl (det_loadN tN66 rfl rfl (.tail _ (.head _)) rfl) rfl rfl trivial ?_
  refine oF nofun rfl hb34 rfl rfl rfl trivial (fun w1 hs => (parts_ok hs.know).any) (fun v F1 hF1 hN1 ⟨p, hv1, h0, h1⟩ => ?_)
  subst hv1
  replace hP := hP.mono hF1
  refine be rfl ?_
  refine k_then ?_
  refine t_block ?_
  refine t_rangeF (σ := Bool) (fun s => [(p3, .cells [.bool s].toArray 4 (0, 0))]) (fun k s => s = true ∧ ∀ i, i < k → okAt i (atP ps i) = true) (fun j s => j = .exit 0 ∧ s = false ∧ validP ps = false) true (fun k => [.int .i64 k, .agg (ptv (atP ps k)).toArray]) (xs := yldP ps) (env0 := [(2, _), (3, _)]) rfl hb37 (parts_gives hP hnb h1) (fun k hk => yldP_get hk) (fun _ => rfl) rfl ⟨rfl, fun i hi => absurd hi (Nat.not_lt_zero i)⟩ ⟨rfl, rfl, trivial⟩ (.cons_cons _ (.cons _ (.refl _))) ?_ ?_ ?_
  ·
    rintro l D r k s hr hk ⟨hs1, hI⟩
    rw [yldP_len] at hk
    subst hs1
    refine t_seq ?_
    refine b0 ?_
    refine o1 rfl (det_assign rfl) rfl rfl trivial ?_
    refine be rfl ?_
    refine k_then ?_
    refine b0 ?_
    refine om1 rfl (new_alloc z28) rfl rfl trivial (fun p5 => ?_)
    refine stN nofun rfl tN28 rfl rfl rfl .head rfl trivial rfl rfl ?_
    refine be rfl ?_
    refine k_then ?_
    refine k_begin (pre := [_, _]) hr.1 rfl ?_
    refine t_block ?_
    refine t_seq ?_
    refine b0 ?_
    refine o1 rfl (det_loadN tN28 rfl rfl (.head _) rfl) rfl rfl trivial ?_
    refine o1 rfl (det_call hb13 rfl rfl (fun w1 hs => cpart_ok hs.know)) rfl rfl trivial ?_
    refine o1 rfl (det_eql rfl rfl) rfl rfl trivial ?_
    refine o2P beq_iff_eq rfl (det_move rfl) rfl rfl trivial (fun hb => ?_) (fun hb => ?_)
    ·
      refine o1 rfl (det_move rfl) rfl rfl ⟨_, rfl, rfl⟩ ?_
      refine o1 rfl (det_eql rfl rfl) rfl rfl ⟨_, rfl, rfl⟩ ?_
      refine o2P beq_iff_eq rfl (det_move rfl) rfl rfl ⟨_, rfl, rfl⟩ (fun hb => ?_) (fun hb => ?_)
      ·
        refine on rfl rfl rfl ⟨_, rfl, .inl rfl⟩ ?_
        refine on rfl rfl rfl ⟨_, rfl, .inl rfl⟩ ?_
        refine on rfl rfl rfl ⟨_, rfl, .inl rfl⟩ ?_
        refine o1 rfl (det_pickT rfl rfl) rfl rfl ⟨_, rfl, rfl⟩ ?_
        refine o1 rfl (det_pickT rfl rfl) rfl rfl trivial ?_
        refine st1 nofun rfl t1_4 rfl rfl rfl (.tail .head) rfl trivial rfl ?_
        refine be rfl ?_
        refine k_then ?_
        refine t_seq ?_
        refine b0 ?_
        refine o1 rfl (det_load1 t1_4 rfl rfl (.tail _ (.head _)) rfl) rfl rfl trivial ?_
        refine o1 rfl (det_not rfl) rfl rfl trivial ?_
        refine be rfl ?_
        refine k_then ?_
        refine t_condP not_iff_false rfl (fun hb => ?_) (fun hb => ?_)
        ·
          refine t_exit ?_
          refine k_blkN (by decide) ?_
          cases hb
        ·
          refine t_skip ?_
          refine k_blk ?_
          refine round_next true hr ⟨rfl, fun i hi => by
              rcases Nat.lt_or_ge i k with h | h
              · exact hI i h
              · rw [show i = k by omega]; grind [okAt]⟩ (.cons _ (.refl _)) rfl rfl
      ·
        refine o1 rfl (det_fieldAddr fld28_2 rfl) rfl rfl ⟨_, rfl, rfl⟩ ?_
        refine o1 rfl (det_load1 t1_4 rfl rfl (.head _) rfl) rfl rfl ⟨_, rfl, rfl⟩ ?_
        refine o1 rfl (det_not rfl) rfl rfl ⟨_, rfl, rfl⟩ ?_
        refine o1 rfl (det_pickF rfl rfl) rfl rfl ⟨_, rfl, rfl⟩ ?_
        refine o1 rfl (det_pickT rfl rfl) rfl rfl trivial ?_
        refine st1 nofun rfl t1_4 rfl rfl rfl (.tail .head) rfl trivial rfl ?_
        refine be rfl ?_
        refine k_then ?_
        refine t_seq ?_
        refine b0 ?_
        refine o1 rfl (det_load1 t1_4 rfl rfl (.tail _ (.head _)) rfl) rfl rfl trivial ?_
        refine o1 rfl (det_not rfl) rfl rfl trivial ?_
        refine be rfl ?_
        refine k_then ?_
        refine t_condP not_iff_false rfl (fun hb => ?_) (fun hb => ?_)
        ·
          refine t_exit ?_
          refine k_blkN (by decide) ?_
          refine round_exit (!(atP ps k).rest) ⟨rfl, by simpa using hb, validP_false hk (by grind [okAt])⟩ (.cons _ (.refl _)) rfl rfl
        ·
          refine t_skip ?_
          refine k_blk ?_
          refine round_next (!(atP ps k).rest) hr ⟨by simpa using hb, fun i hi => by
              rcases Nat.lt_or_ge i k with h | h
              · exact hI i h
              · rw [show i = k by omega]; grind [okAt]⟩ (.cons _ (.refl _)) rfl rfl
    ·
      refine on rfl rfl rfl ⟨_, rfl, .inl rfl⟩ ?_
      refine on rfl rfl rfl ⟨_, rfl, .inl rfl⟩ ?_
      refine on rfl rfl rfl ⟨_, rfl, .inl rfl⟩ ?_
      refine on rfl rfl rfl ⟨_, rfl, .inr rfl⟩ ?_
      refine on rfl rfl rfl ⟨_, rfl, .inr rfl⟩ ?_
      refine on rfl rfl rfl ⟨_, rfl, .inr rfl⟩ ?_
      refine on rfl rfl rfl ⟨_, rfl, .inl rfl⟩ ?_
      refine o1 rfl (det_pickF rfl rfl) rfl rfl trivial ?_
      refine st1 nofun rfl t1_4 rfl rfl rfl (.tail .head) rfl trivial rfl ?_
      refine be rfl ?_
      refine k_then ?_
      refine t_seq ?_
      refine b0 ?_
      refine o1 rfl (det_load1 t1_4 rfl rfl (.tail _ (.head _)) rfl) rfl rfl trivial ?_
      refine o1 rfl (det_not rfl) rfl rfl trivial ?_
      refine be rfl ?_
      refine k_then ?_
      refine t_condP not_iff_false rfl (fun hb => ?_) (fun hb => ?_)
      ·
        refine t_exit ?_
        refine k_blkN (by decide) ?_
        refine round_exit false ⟨rfl, rfl, validP_false hk (by grind [okAt])⟩ (.cons _ (.refl _)) rfl rfl
      ·
        refine t_skip ?_
        refine k_blk ?_
        exact absurd rfl hb
  ·
    rintro D s ⟨hs1, hI⟩
    rw [yldP_len] at hI
    subst hs1
    refine k_blk ?_
    refine k_then ?_
    refine t_seq ?_
    refine b0 ?_
    refine o1 rfl (det_load1 t1_4 rfl rfl (.head _) rfl) rfl rfl trivial ?_
    refine o1 rfl (det_assign rfl) rfl rfl trivial ?_
    refine be rfl ?_
    refine k_then ?_
    refine t_ret (k_nogR (?_))
    refine ret_mark (pre := [_]) (vs := [_]) rfl rfl ⟨(.tmp rfl), trivial⟩ rfl (fun w1 hs => ?_)
    exact ⟨by rw [validP_iff.2 hI]; rfl, hs.keep⟩
  ·
    rintro D j s ⟨hj, hs1, hI⟩
    subst hj
    subst hs1
    refine t_exit ?_
    refine k_blkE ?_
    refine k_then ?_
    refine t_seq ?_
    refine b0 ?_
    refine o1 rfl (det_load1 t1_4 rfl rfl (.head _) rfl) rfl rfl trivial ?_
    refine o1 rfl (det_assign rfl) rfl rfl trivial ?_
    refine be rfl ?_
    refine k_then ?_
    refine t_ret (k_nogR (?_))
    refine ret_mark (pre := [_]) (vs := [_]) rfl rfl ⟨(.tmp rfl), trivial⟩ rfl (fun w1 hs => ?_)
    exact ⟨by rw [hI]; rfl, hs.keep⟩

end Go.Proofs.Qu
