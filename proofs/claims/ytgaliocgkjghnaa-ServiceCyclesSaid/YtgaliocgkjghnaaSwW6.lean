/-
  Walks through layers 27, 29 and 30 and their references.
-/
import Derived.Test.YtgaliocgkjghnaaSwW5
namespace Go.Proofs.Sw
open Go Go.Eng Go.Gt Go.Proofs.Gt
set_option maxRecDepth 4000

/-- gates.Open. -/
theorem Open_ok {w : World} {F : Know} (hF : ∀ a v, F a = some v → w.cell? a = some v) {A : Option Addr} {n cap : Nat} {es : Ents} {cyc : Int} (hE : EntK F A n es) (cl : Int) (hcb : -9223372036854775808 ≤ cl ∧ cl ≤ 9223372036854775807) (t : Int) : Pure Try.prog 45 [.agg [.slice A n cap, .int .i64 cyc].toArray, .int .i64 cl, .int .i64 t] w (.tuple [.int .i64 (openA es cyc cl t).1, .int .i64 (openA es cyc cl t).2].toArray) := by
  refine fn_pure (F := F) Try.func45 rfl Try.ntmps45 rfl hF ?_
  refine t_seq ?_
  refine b0 ?_
  refine om1 rfl (new_boxN rfl) rfl rfl trivial (fun p3 => ?_)
  refine o1 rfl (det_assign rfl) rfl rfl trivial ?_
  refine o1 rfl (det_assign rfl) rfl rfl trivial ?_
  refine be rfl ?_
  refine k_then ?_
  refine t_seq ?_
  refine t_seq ?_
  refine b0 ?_
  refine o1 rfl (det_loadN tN30 rfl rfl (.head _) rfl) rfl rfl trivial ?_
  refine o1 rfl (det_move rfl) rfl rfl trivial ?_
  refine o1 rfl (det_move rfl) rfl rfl trivial ?_
  refine o1 rfl (det_call hb73 rfl rfl (fun w1 hs => valid_ok hs.know hE cl t 0 hcb)) rfl rfl trivial ?_
  refine o1 rfl (det_assign rfl) rfl rfl trivial ?_
  refine be rfl ?_
  refine k_then ?_
  refine t_seq ?_
  refine b0 ?_
  refine o1 rfl (det_move rfl) rfl rfl trivial ?_
  refine o1 rfl (det_neq rfl rfl) rfl rfl trivial ?_
  refine be rfl ?_
  refine k_then ?_
  refine t_condP bne_iff_ne rfl (fun hb => ?_) (fun hb => ?_)
  ·
    refine t_seq ?_
    refine b0 ?_
    refine o1 rfl (det_move rfl) rfl rfl trivial ?_
    refine o1 rfl (det_assign rfl) rfl rfl trivial ?_
    refine o1 rfl (det_assign rfl) rfl rfl trivial ?_
    refine be rfl ?_
    refine k_then ?_
    refine t_ret (k_thenR (?_))
    refine ret_tmp2 rfl rfl rfl rfl (fun w1 hs => ?_)
    exact ⟨by rw [openA, if_neg hb], hs.keep⟩
  ·
    have he0 : errG es cyc cl t 0 = 0 := by omega
    obtain ⟨hG, hT⟩ := errG_zero he0
    have ht : -1099511627776 * 4 ≤ t ∧ t ≤ 1099511627776 * 4 := by omega
    obtain ⟨hl1, hl2, hall0, hsum, hc9, hc1⟩ := okG_parts hG
    replace hc1 : 0 < cyc := by omega
    refine t_skip ?_
    refine k_then ?_
    refine t_seq ?_
    refine b0 ?_
    refine o1 rfl (det_loadN tN30 rfl rfl (.head _) rfl) rfl rfl trivial ?_
    refine o1 rfl (det_move rfl) rfl rfl trivial ?_
    refine o1 rfl (det_move rfl) rfl rfl trivial ?_
    refine o1 rfl (det_call hb74 rfl rfl (fun w1 hs => open_ok hs.know hE hG cl ⟨hT.1, hT.2.1⟩ t ht)) rfl rfl trivial ?_
    refine o1 rfl (det_assign rfl) rfl rfl trivial ?_
    refine o1 rfl (det_assign rfl) rfl rfl trivial ?_
    refine be rfl ?_
    refine k_then ?_
    refine t_ret ?_
    refine ret_tmp2 rfl rfl rfl rfl (fun w1 hs => ?_)
    exact ⟨by rw [openA, if_pos he0], hs.keep⟩

end Go.Proofs.Sw
