/-
  Walks through layers 27, 29 and 30 and their references.
-/
import Derived.Test.YtgaliocgkjghnaaSwW12
namespace Go.Proofs.Sw
open Go Go.Eng Go.Gt Go.Proofs.Gt Go.Sw
set_option maxRecDepth 4000

/-- Mask. -/
theorem mask29_ok {w : World} {F : Know} (hF : ∀ a v, F a = some v → w.cell? a = some v) {c : Ch} (hC : ChK F c) {t : Int} : Pure Try.prog 19 [.agg (chv c).toArray, .int .i64 t] w (.tuple [.int .i64 (maskC c t).1, .int .i64 (maskC c t).2].toArray) := by
  refine fn_pure (F := F) Try.func19 rfl Try.ntmps19 rfl hF ?_
  refine t_seq ?_
  refine b0 ?_
  refine om1 rfl (new_boxN rfl) rfl rfl trivial (fun p2 => ?_)
  refine om1 rfl (new_alloc z3) rfl rfl trivial (fun p4 => ?_)
  refine om1 rfl (new_alloc z38) rfl rfl trivial (fun p5 => ?_)
  refine be rfl ?_
  refine k_then ?_
  refine t_seq ?_
  refine t_seq ?_
  refine b0 ?_
  refine o1 rfl (det_loadN tN34 rfl rfl (.tail _ (.tail _ (.head _))) rfl) rfl rfl trivial ?_
  refine o1 rfl (det_call hb17 rfl rfl (fun w1 hs => check29_ok hs.know hC)) rfl rfl trivial ?_
  refine o1 rfl (det_assign rfl) rfl rfl trivial ?_
  refine be rfl ?_
  refine k_then ?_
  refine t_seq ?_
  refine b0 ?_
  refine o1 rfl (det_move rfl) rfl rfl trivial ?_
  refine o1 rfl (det_neq rfl rfl) rfl rfl trivial ?_
  refine be rfl ?_
  refine k_then ?_
  refine t_condP bne_iff_ne rfl (fun hb => ?_) (fun hb => ?_)
  ·
    have hc : okC c = false := by unfold checkC at hb; grind
    refine t_seq ?_
    refine b0 ?_
    refine o1 rfl (det_move rfl) rfl rfl trivial ?_
    refine st1 nofun rfl t1_3 rfl rfl rfl (.tail .head) rfl trivial rfl ?_
    refine st1 nofun rfl t1_38 rfl rfl rfl .head rfl trivial rfl ?_
    refine be rfl ?_
    refine k_then ?_
    refine t_ret (k_thenR (?_))
    refine ret_any (vs := [_, _]) rfl rfl ⟨(.cell1 t1_3 rfl rfl (.tail _ (.head _)) rfl), (.cell1 t1_38 rfl rfl (.head _) rfl), trivial⟩ rfl (fun w1 hs => ?_)
    exact ⟨by unfold maskC checkC; rw [hc]; rfl, hs.keep⟩
  ·
    have hc : okC c = true := by unfold checkC at hb; grind
    have hO := okC_iff.1 hc
    refine t_skip ?_
    refine k_then ?_
    refine t_seq ?_
    refine t_seq ?_
    refine b0 ?_
    refine o1 rfl (det_move rfl) rfl rfl trivial ?_
    refine om1 rfl (new_buildSlice rfl (fun w => bsl105_1_0 _ w)) rfl rfl trivial (fun p15 => ?_)
    refine tk_freeze (pre := []) rfl (fun F2 hF2 hNF2 hKF2 => ?_)
    have hX : IntsA F2 (some ⟨p15, 0, none⟩) 1 [t] := intsA_lit (xs := [t]) hKF2
    refine o1 rfl (det_call hb49 rfl rfl (fun w1 hs => times_ok hs.know hX (by decide))) rfl rfl trivial ?_
    refine o1 rfl (det_assign rfl) rfl rfl trivial ?_
    refine be rfl ?_
    refine k_then ?_
    refine t_seq ?_
    refine b0 ?_
    refine o1 rfl (det_move rfl) rfl rfl trivial ?_
    refine o1 rfl (det_neq rfl rfl) rfl rfl trivial ?_
    refine be rfl ?_
    refine k_then ?_
    refine t_condP bne_iff_ne rfl (fun hb => ?_) (fun hb => ?_)
    ·
      have ht : okTm t = false := by simp only [List.all_cons, List.all_nil, Bool.and_true] at hb; grind
      refine t_seq ?_
      refine b0 ?_
      refine o1 rfl (det_move rfl) rfl rfl trivial ?_
      refine st1 nofun rfl t1_3 rfl rfl rfl (.tail .head) rfl trivial rfl ?_
      refine st1 nofun rfl t1_38 rfl rfl rfl .head rfl trivial rfl ?_
      refine be rfl ?_
      refine k_then ?_
      refine t_ret (k_thenR (?_))
      refine ret_any (vs := [_, _]) rfl rfl ⟨(.cell1 t1_3 rfl rfl (.tail _ (.head _)) rfl), (.cell1 t1_38 rfl rfl (.head _) rfl), trivial⟩ rfl (fun w1 hs => ?_)
      exact ⟨by unfold maskC; rw [hc, ht]; simp only [List.all_cons, List.all_nil, Bool.and_true, ht]; rfl, hs.keep⟩
    ·
      have ht : okTm t = true := by simp only [List.all_cons, List.all_nil, Bool.and_true] at hb; grind
      have htb := of_decide_eq_true (show decide _ = true from ht)
      refine t_skip ?_
      refine k_then ?_
      refine t_seq ?_
      refine t_seq ?_
      refine b0 ?_
      refine o1 rfl (det_loadN tN34 rfl rfl (.tail _ (.tail _ (.head _))) rfl) rfl rfl trivial ?_
      refine o1 rfl (det_move rfl) rfl rfl trivial ?_
      refine o1 rfl (det_move rfl) rfl rfl trivial ?_
      first | (refine o1 rfl (det_addI rfl rfl ?_) rfl rfl trivial ?_; (· omega)) | refine o1 rfl (det_add rfl rfl) rfl rfl trivial ?_
      refine oF nofun rfl hb52 rfl rfl rfl trivial (fun w1 hs => (stretches_ok hs.know).any) (fun v F3 hF3 hNF3 ⟨q1, q2, q3, hv, h1, h2, h3⟩ => ?_)
      subst hv
      refine be rfl ?_
      refine k_then ?_
      refine t_block ?_
      refine t_rangeF2 (σ := Int) (fun s => [(p5, .cells [.int .i64 0].toArray 38 (0, 0)), (p4, .cells [.int .i64 s].toArray 3 (0, 0)), (p2, .cells (chv c).toArray 34 (0, 0))]) (fun k s => s = 0 ∧ k = 0) (fun j s => j = .ret ∧ s = atC c t) 0 (fun k => [.int .i64 ((stW c (t + 1) t).getD k 0)]) (xs := (stW c (t + 1) t).map fun m => [Value.int .i64 m]) (env0 := [(4, _), (5, _)]) rfl hb79 (stretch_gives (hC.mono (fun a v h => hF3 a v (hF2 a v h))) hc htb.1 (by omega) h1 h2 h3) (fun k hk => by rw [List.getElem_map]; rw [List.length_map] at hk; simp [hk]) (fun _ => rfl) rfl ⟨rfl, rfl⟩ ⟨rfl, rfl, trivial⟩ (.refl _) ?_ ?_ ?_
      ·
        rintro W2 S2 l D r k s hr hk ⟨hs0, hk0⟩
        subst hk0
        subst hs0
        rw [stW_one hO]
        refine b0 ?_
        refine o1 rfl (det_assign rfl) rfl rfl trivial ?_
        refine be rfl ?_
        refine k_then ?_
        refine k_begin (pre := [_, _, _]) hr.1 rfl ?_
        refine t_block ?_
        refine t_seq ?_
        refine b0 ?_
        refine o1 rfl (det_move rfl) rfl rfl trivial ?_
        refine st1 nofun rfl t1_3 rfl rfl rfl (.tail .head) rfl trivial rfl ?_
        refine st1 nofun rfl t1_38 rfl rfl rfl .head rfl trivial rfl ?_
        refine be rfl ?_
        refine k_then ?_
        refine t_ret (k_blkR (?_))
        refine round_ret (atC c t) ⟨rfl, rfl⟩ (.refl _) rfl rfl
      ·
        rintro D s ⟨hs0, hk0⟩
        rw [stW_one hO] at hk0; simp at hk0
      ·
        rintro D j s ⟨hj, hs0⟩
        subst hj
        subst hs0
        refine t_ret (k_blkR (k_thenR (?_)))
        refine ret_mark (pre := [_, _, _]) (vs := [_, _]) rfl rfl ⟨(.cell1 t1_3 rfl rfl (.tail _ (.head _)) rfl), (.cell1 t1_38 rfl rfl (.head _) rfl), trivial⟩ rfl (fun w1 hs => ?_)
        exact ⟨by unfold maskC; rw [hc, ht]; rfl, hs.keep⟩

end Go.Proofs.Sw
