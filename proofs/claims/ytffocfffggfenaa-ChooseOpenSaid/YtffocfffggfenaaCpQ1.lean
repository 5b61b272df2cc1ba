/-
  Walks through layers 36, 37 and 38 and their references.
-/
import Derived.Test.YtffocfffggfenaaCpFacts
import Derived.Test.YtffocfffggfenaaGtPlain2ToChPlain
namespace Go.Proofs.Cp
open Go Go.Eng Go.Qu
set_option maxRecDepth 4000

/-- within. -/
theorem within_ok {w : World} {F : Know} (hF : ∀ a v, F a = some v → w.cell? a = some v) {n lo hi : Int} : Pure Try.prog 88 [.int .i64 n, .int .i64 lo, .int .i64 hi] w (.bool (decide (lo ≤ n ∧ n ≤ hi))) := by
  refine fn_pure (F := F) Try.func88 rfl Try.ntmps88 rfl hF ?_
  refine t_seq ?_
  refine b0 ?_
  refine o1 rfl (det_assign rfl) rfl rfl trivial ?_
  refine be rfl ?_
  refine k_then ?_
  refine t_seq ?_
  refine b0 ?_
  refine o1 rfl (det_move rfl) rfl rfl trivial ?_
  refine o1 rfl (det_move rfl) rfl rfl trivial ?_
  refine o1 rfl (det_geq rfl rfl) rfl rfl trivial ?_
  refine o2P decide_eq_true_iff rfl (det_move rfl) rfl rfl trivial (fun hb => ?_) (fun hb => ?_)
  ·
    refine o1 rfl (det_move rfl) rfl rfl ⟨_, rfl, rfl⟩ ?_
    refine o1 rfl (det_move rfl) rfl rfl ⟨_, rfl, rfl⟩ ?_
    refine o1 rfl (det_leq rfl rfl) rfl rfl ⟨_, rfl, rfl⟩ ?_
    refine o1 rfl (det_pickT rfl rfl) rfl rfl trivial ?_
    refine o1 rfl (det_assign rfl) rfl rfl trivial ?_
    refine be rfl ?_
    refine k_then ?_
    refine t_ret ?_
    refine ret_tmp rfl rfl rfl (fun w1 hs => ?_)
    first | exact ⟨rfl, hs.keep⟩ | exact ⟨by grind [], hs.keep⟩
  ·
    refine on rfl rfl rfl ⟨_, rfl, .inl rfl⟩ ?_
    refine on rfl rfl rfl ⟨_, rfl, .inl rfl⟩ ?_
    refine on rfl rfl rfl ⟨_, rfl, .inl rfl⟩ ?_
    refine o1 rfl (det_pickF rfl rfl) rfl rfl trivial ?_
    refine o1 rfl (det_assign rfl) rfl rfl trivial ?_
    refine be rfl ?_
    refine k_then ?_
    refine t_ret ?_
    refine ret_tmp rfl rfl rfl (fun w1 hs => ?_)
    first | exact ⟨rfl, hs.keep⟩ | exact ⟨by grind [], hs.keep⟩

/-- from0. -/
theorem from0_ok {w : World} {F : Know} (hF : ∀ a v, F a = some v → w.cell? a = some v) {n : Int} : Pure Try.prog 110 [.int .i64 n] w (.bool (decide (0 ≤ n ∧ n ≤ 1099511627776))) := by
  refine fn_pure (F := F) Try.func110 rfl Try.ntmps110 rfl hF ?_
  refine t_seq ?_
  refine b0 ?_
  refine o1 rfl (det_assign rfl) rfl rfl trivial ?_
  refine be rfl ?_
  refine k_then ?_
  refine t_seq ?_
  refine b0 ?_
  refine o1 rfl (det_move rfl) rfl rfl trivial ?_
  refine o1 rfl (det_geq rfl rfl) rfl rfl trivial ?_
  refine o2P decide_eq_true_iff rfl (det_move rfl) rfl rfl trivial (fun hb => ?_) (fun hb => ?_)
  ·
    refine o1 rfl (det_move rfl) rfl rfl ⟨_, rfl, rfl⟩ ?_
    refine o1 rfl (det_leq rfl rfl) rfl rfl ⟨_, rfl, rfl⟩ ?_
    refine o1 rfl (det_pickT rfl rfl) rfl rfl trivial ?_
    refine o1 rfl (det_assign rfl) rfl rfl trivial ?_
    refine be rfl ?_
    refine k_then ?_
    refine t_ret ?_
    refine ret_tmp rfl rfl rfl (fun w1 hs => ?_)
    first | exact ⟨rfl, hs.keep⟩ | exact ⟨by grind [], hs.keep⟩
  ·
    refine on rfl rfl rfl ⟨_, rfl, .inl rfl⟩ ?_
    refine on rfl rfl rfl ⟨_, rfl, .inl rfl⟩ ?_
    refine o1 rfl (det_pickF rfl rfl) rfl rfl trivial ?_
    refine o1 rfl (det_assign rfl) rfl rfl trivial ?_
    refine be rfl ?_
    refine k_then ?_
    refine t_ret ?_
    refine ret_tmp rfl rfl rfl (fun w1 hs => ?_)
    first | exact ⟨rfl, hs.keep⟩ | exact ⟨by grind [], hs.keep⟩

/-- CheckItem. -/
theorem citem_ok {w : World} {F : Know} (hF : ∀ a v, F a = some v → w.cell? a = some v) {x : It} : Pure Try.prog 77 [.agg [.int .i64 x.st, .int .i64 x.sq, .int .i64 x.cl, .int .i64 x.sz, .int .i64 x.sn].toArray] w (.int .i64 (if okI x then 0 else 460)) := by
  refine fn_pure (F := F) Try.func77 rfl Try.ntmps77 rfl hF ?_
  refine t_seq ?_
  refine b0 ?_
  refine om1 rfl (new_boxN rfl) rfl rfl trivial (fun p1 => ?_)
  refine o1 rfl (det_assign rfl) rfl rfl trivial ?_
  refine be rfl ?_
  refine k_then ?_
  refine t_seq ?_
  refine t_seq ?_
  refine b0 ?_
  refine o1 rfl (det_fieldAddr fld55_0 rfl) rfl rfl trivial ?_
  refine o1 rfl (det_load1 t1_3 rfl rfl (.head _) rfl) rfl rfl trivial ?_
  refine o1 rfl (det_call hb88 rfl rfl (fun w1 hs => within_ok hs.know)) rfl rfl trivial ?_
  refine o1 rfl (det_not rfl) rfl rfl trivial ?_
  refine o2P not_iff_false rfl (det_move rfl) rfl rfl trivial (fun hb => ?_) (fun hb => ?_)
  ·
    refine on rfl rfl rfl ⟨_, rfl, .inl rfl⟩ ?_
    refine on rfl rfl rfl ⟨_, rfl, .inl rfl⟩ ?_
    refine on rfl rfl rfl ⟨_, rfl, .inl rfl⟩ ?_
    refine on rfl rfl rfl ⟨_, rfl, .inl rfl⟩ ?_
    refine o1 rfl (det_pickT rfl rfl) rfl rfl trivial ?_
    refine o1 rfl (det_move rfl) rfl rfl trivial ?_
    refine on rfl rfl rfl ⟨_, rfl, .inl rfl⟩ ?_
    refine on rfl rfl rfl ⟨_, rfl, .inl rfl⟩ ?_
    refine on rfl rfl rfl ⟨_, rfl, .inl rfl⟩ ?_
    refine on rfl rfl rfl ⟨_, rfl, .inl rfl⟩ ?_
    refine o1 rfl (det_pickT rfl rfl) rfl rfl trivial ?_
    refine o1 rfl (det_move rfl) rfl rfl trivial ?_
    refine on rfl rfl rfl ⟨_, rfl, .inl rfl⟩ ?_
    refine on rfl rfl rfl ⟨_, rfl, .inl rfl⟩ ?_
    refine on rfl rfl rfl ⟨_, rfl, .inl rfl⟩ ?_
    refine on rfl rfl rfl ⟨_, rfl, .inl rfl⟩ ?_
    refine o1 rfl (det_pickT rfl rfl) rfl rfl trivial ?_
    refine o1 rfl (det_move rfl) rfl rfl trivial ?_
    refine on rfl rfl rfl ⟨_, rfl, .inl rfl⟩ ?_
    refine on rfl rfl rfl ⟨_, rfl, .inl rfl⟩ ?_
    refine on rfl rfl rfl ⟨_, rfl, .inl rfl⟩ ?_
    refine on rfl rfl rfl ⟨_, rfl, .inl rfl⟩ ?_
    refine o1 rfl (det_pickT rfl rfl) rfl rfl trivial ?_
    refine be rfl ?_
    refine k_then ?_
    refine t_condT rfl ?_
    refine t_seq ?_
    refine b0 ?_
    refine o1 rfl (det_assign rfl) rfl rfl trivial ?_
    refine be rfl ?_
    refine k_then ?_
    refine t_ret (k_thenR (?_))
    refine ret_tmp rfl rfl rfl (fun w1 hs => ?_)
    first | exact ⟨rfl, hs.keep⟩ | exact ⟨by grind [okI], hs.keep⟩
  ·
    refine o1 rfl (det_fieldAddr fld55_1 rfl) rfl rfl ⟨_, rfl, rfl⟩ ?_
    refine o1 rfl (det_load1 t1_3 rfl rfl (.head _) rfl) rfl rfl ⟨_, rfl, rfl⟩ ?_
    refine o1 rfl (det_call hb88 rfl rfl (fun w1 hs => within_ok hs.know)) rfl rfl ⟨_, rfl, rfl⟩ ?_
    refine o1 rfl (det_not rfl) rfl rfl ⟨_, rfl, rfl⟩ ?_
    refine o1 rfl (det_pickF rfl rfl) rfl rfl trivial ?_
    refine o2P not_iff_false rfl (det_move rfl) rfl rfl trivial (fun hb => ?_) (fun hb => ?_)
    ·
      refine on rfl rfl rfl ⟨_, rfl, .inl rfl⟩ ?_
      refine on rfl rfl rfl ⟨_, rfl, .inl rfl⟩ ?_
      refine on rfl rfl rfl ⟨_, rfl, .inl rfl⟩ ?_
      refine on rfl rfl rfl ⟨_, rfl, .inl rfl⟩ ?_
      refine o1 rfl (det_pickT rfl rfl) rfl rfl trivial ?_
      refine o1 rfl (det_move rfl) rfl rfl trivial ?_
      refine on rfl rfl rfl ⟨_, rfl, .inl rfl⟩ ?_
      refine on rfl rfl rfl ⟨_, rfl, .inl rfl⟩ ?_
      refine on rfl rfl rfl ⟨_, rfl, .inl rfl⟩ ?_
      refine on rfl rfl rfl ⟨_, rfl, .inl rfl⟩ ?_
      refine o1 rfl (det_pickT rfl rfl) rfl rfl trivial ?_
      refine o1 rfl (det_move rfl) rfl rfl trivial ?_
      refine on rfl rfl rfl ⟨_, rfl, .inl rfl⟩ ?_
      refine on rfl rfl rfl ⟨_, rfl, .inl rfl⟩ ?_
      refine on rfl rfl rfl ⟨_, rfl, .inl rfl⟩ ?_
      refine on rfl rfl rfl ⟨_, rfl, .inl rfl⟩ ?_
      refine o1 rfl (det_pickT rfl rfl) rfl rfl trivial ?_
      refine be rfl ?_
      refine k_then ?_
      refine t_condT rfl ?_
      refine t_seq ?_
      refine b0 ?_
      refine o1 rfl (det_assign rfl) rfl rfl trivial ?_
      refine be rfl ?_
      refine k_then ?_
      refine t_ret (k_thenR (?_))
      refine ret_tmp rfl rfl rfl (fun w1 hs => ?_)
      first | exact ⟨rfl, hs.keep⟩ | exact ⟨by grind [okI], hs.keep⟩
    ·
      refine o1 rfl (det_fieldAddr fld55_4 rfl) rfl rfl ⟨_, rfl, rfl⟩ ?_
      refine o1 rfl (det_load1 t1_3 rfl rfl (.head _) rfl) rfl rfl ⟨_, rfl, rfl⟩ ?_
      refine o1 rfl (det_call hb88 rfl rfl (fun w1 hs => within_ok hs.know)) rfl rfl ⟨_, rfl, rfl⟩ ?_
      refine o1 rfl (det_not rfl) rfl rfl ⟨_, rfl, rfl⟩ ?_
      refine o1 rfl (det_pickF rfl rfl) rfl rfl trivial ?_
      refine o2P not_iff_false rfl (det_move rfl) rfl rfl trivial (fun hb => ?_) (fun hb => ?_)
      ·
        refine on rfl rfl rfl ⟨_, rfl, .inl rfl⟩ ?_
        refine on rfl rfl rfl ⟨_, rfl, .inl rfl⟩ ?_
        refine on rfl rfl rfl ⟨_, rfl, .inl rfl⟩ ?_
        refine on rfl rfl rfl ⟨_, rfl, .inl rfl⟩ ?_
        refine o1 rfl (det_pickT rfl rfl) rfl rfl trivial ?_
        refine o1 rfl (det_move rfl) rfl rfl trivial ?_
        refine on rfl rfl rfl ⟨_, rfl, .inl rfl⟩ ?_
        refine on rfl rfl rfl ⟨_, rfl, .inl rfl⟩ ?_
        refine on rfl rfl rfl ⟨_, rfl, .inl rfl⟩ ?_
        refine on rfl rfl rfl ⟨_, rfl, .inl rfl⟩ ?_
        refine o1 rfl (det_pickT rfl rfl) rfl rfl trivial ?_
        refine be rfl ?_
        refine k_then ?_
        refine t_condT rfl ?_
        refine t_seq ?_
        refine b0 ?_
        refine o1 rfl (det_assign rfl) rfl rfl trivial ?_
        refine be rfl ?_
        refine k_then ?_
        refine t_ret (k_thenR (?_))
        refine ret_tmp rfl rfl rfl (fun w1 hs => ?_)
        first | exact ⟨rfl, hs.keep⟩ | exact ⟨by grind [okI], hs.keep⟩
      ·
        refine o1 rfl (det_fieldAddr fld55_2 rfl) rfl rfl ⟨_, rfl, rfl⟩ ?_
        refine o1 rfl (det_load1 t1_3 rfl rfl (.head _) rfl) rfl rfl ⟨_, rfl, rfl⟩ ?_
        refine o1 rfl (det_call hb88 rfl rfl (fun w1 hs => within_ok hs.know)) rfl rfl ⟨_, rfl, rfl⟩ ?_
        refine o1 rfl (det_not rfl) rfl rfl ⟨_, rfl, rfl⟩ ?_
        refine o1 rfl (det_pickF rfl rfl) rfl rfl trivial ?_
        refine o2P not_iff_false rfl (det_move rfl) rfl rfl trivial (fun hb => ?_) (fun hb => ?_)
        ·
          refine on rfl rfl rfl ⟨_, rfl, .inl rfl⟩ ?_
          refine on rfl rfl rfl ⟨_, rfl, .inl rfl⟩ ?_
          refine on rfl rfl rfl ⟨_, rfl, .inl rfl⟩ ?_
          refine on rfl rfl rfl ⟨_, rfl, .inl rfl⟩ ?_
          refine o1 rfl (det_pickT rfl rfl) rfl rfl trivial ?_
          refine be rfl ?_
          refine k_then ?_
          refine t_condT rfl ?_
          refine t_seq ?_
          refine b0 ?_
          refine o1 rfl (det_assign rfl) rfl rfl trivial ?_
          refine be rfl ?_
          refine k_then ?_
          refine t_ret (k_thenR (?_))
          refine ret_tmp rfl rfl rfl (fun w1 hs => ?_)
          first | exact ⟨rfl, hs.keep⟩ | exact ⟨by grind [okI], hs.keep⟩
        ·
          refine o1 rfl (det_fieldAddr fld55_3 rfl) rfl rfl ⟨_, rfl, rfl⟩ ?_
          refine o1 rfl (det_load1 t1_3 rfl rfl (.head _) rfl) rfl rfl ⟨_, rfl, rfl⟩ ?_
          refine o1 rfl (det_call hb88 rfl rfl (fun w1 hs => within_ok hs.know)) rfl rfl ⟨_, rfl, rfl⟩ ?_
          refine o1 rfl (det_not rfl) rfl rfl ⟨_, rfl, rfl⟩ ?_
          refine o1 rfl (det_pickF rfl rfl) rfl rfl trivial ?_
          refine be rfl ?_
          refine k_then ?_
          refine t_condP not_iff_false rfl (fun hb => ?_) (fun hb => ?_)
          ·
            refine t_seq ?_
            refine b0 ?_
            refine o1 rfl (det_assign rfl) rfl rfl trivial ?_
            refine be rfl ?_
            refine k_then ?_
            refine t_ret (k_thenR (?_))
            refine ret_tmp rfl rfl rfl (fun w1 hs => ?_)
            first | exact ⟨rfl, hs.keep⟩ | exact ⟨by grind [okI], hs.keep⟩
          ·
            refine t_skip ?_
            refine k_then ?_
            refine t_seq ?_
            refine b0 ?_
            refine o1 rfl (det_assign rfl) rfl rfl trivial ?_
            refine be rfl ?_
            refine k_then ?_
            refine t_ret ?_
            refine ret_tmp rfl rfl rfl (fun w1 hs => ?_)
            first | exact ⟨rfl, hs.keep⟩ | exact ⟨by grind [okI], hs.keep⟩

/-- The reference's Item. -/
theorem ritem_ok {w : World} {F : Know} (hF : ∀ a v, F a = some v → w.cell? a = some v) {x : It} : Pure Try.prog 89 [.agg [.int .i64 x.st, .int .i64 x.sq, .int .i64 x.cl, .int .i64 x.sz, .int .i64 x.sn].toArray] w (.bool (okI x)) := by
  refine fn_pure (F := F) Try.func89 rfl Try.ntmps89 rfl hF ?_
  refine t_seq ?_
  refine b0 ?_
  refine om1 rfl (new_boxN rfl) rfl rfl trivial (fun p1 => ?_)
  refine o1 rfl (det_assign rfl) rfl rfl trivial ?_
  refine be rfl ?_
  refine k_then ?_
  refine t_seq ?_
  refine b0 ?_
  refine o1 rfl (det_fieldAddr fld55_0 rfl) rfl rfl trivial ?_
  refine o1 rfl (det_load1 t1_3 rfl rfl (.head _) rfl) rfl rfl trivial ?_
  refine o1 rfl (det_call hb110 rfl rfl (fun w1 hs => from0_ok hs.know)) rfl rfl trivial ?_
  refine o2P Iff.rfl rfl (det_move rfl) rfl rfl trivial (fun hb => ?_) (fun hb => ?_)
  ·
    refine o1 rfl (det_fieldAddr fld55_1 rfl) rfl rfl ⟨_, rfl, rfl⟩ ?_
    refine o1 rfl (det_load1 t1_3 rfl rfl (.head _) rfl) rfl rfl ⟨_, rfl, rfl⟩ ?_
    refine o1 rfl (det_call hb110 rfl rfl (fun w1 hs => from0_ok hs.know)) rfl rfl ⟨_, rfl, rfl⟩ ?_
    refine o1 rfl (det_pickT rfl rfl) rfl rfl trivial ?_
    refine o2P Iff.rfl rfl (det_move rfl) rfl rfl trivial (fun hb => ?_) (fun hb => ?_)
    ·
      refine o1 rfl (det_fieldAddr fld55_4 rfl) rfl rfl ⟨_, rfl, rfl⟩ ?_
      refine o1 rfl (det_load1 t1_3 rfl rfl (.head _) rfl) rfl rfl ⟨_, rfl, rfl⟩ ?_
      refine o1 rfl (det_call hb110 rfl rfl (fun w1 hs => from0_ok hs.know)) rfl rfl ⟨_, rfl, rfl⟩ ?_
      refine o1 rfl (det_pickT rfl rfl) rfl rfl trivial ?_
      refine o2P Iff.rfl rfl (det_move rfl) rfl rfl trivial (fun hb => ?_) (fun hb => ?_)
      ·
        refine o1 rfl (det_fieldAddr fld55_2 rfl) rfl rfl ⟨_, rfl, rfl⟩ ?_
        refine o1 rfl (det_load1 t1_3 rfl rfl (.head _) rfl) rfl rfl ⟨_, rfl, rfl⟩ ?_
        refine o1 rfl (det_geq rfl rfl) rfl rfl ⟨_, rfl, rfl⟩ ?_
        refine o1 rfl (det_pickT rfl rfl) rfl rfl trivial ?_
        refine o2P decide_eq_true_iff rfl (det_move rfl) rfl rfl trivial (fun hb => ?_) (fun hb => ?_)
        ·
          refine o1 rfl (det_fieldAddr fld55_2 rfl) rfl rfl ⟨_, rfl, rfl⟩ ?_
          refine o1 rfl (det_load1 t1_3 rfl rfl (.head _) rfl) rfl rfl ⟨_, rfl, rfl⟩ ?_
          refine o1 rfl (det_leq rfl rfl) rfl rfl ⟨_, rfl, rfl⟩ ?_
          refine o1 rfl (det_pickT rfl rfl) rfl rfl trivial ?_
          refine o2P decide_eq_true_iff rfl (det_move rfl) rfl rfl trivial (fun hb => ?_) (fun hb => ?_)
          ·
            refine o1 rfl (det_fieldAddr fld55_3 rfl) rfl rfl ⟨_, rfl, rfl⟩ ?_
            refine o1 rfl (det_load1 t1_3 rfl rfl (.head _) rfl) rfl rfl ⟨_, rfl, rfl⟩ ?_
            refine o1 rfl (det_geq rfl rfl) rfl rfl ⟨_, rfl, rfl⟩ ?_
            refine o1 rfl (det_pickT rfl rfl) rfl rfl trivial ?_
            refine o2P decide_eq_true_iff rfl (det_move rfl) rfl rfl trivial (fun hb => ?_) (fun hb => ?_)
            ·
              refine o1 rfl (det_fieldAddr fld55_3 rfl) rfl rfl ⟨_, rfl, rfl⟩ ?_
              refine o1 rfl (det_load1 t1_3 rfl rfl (.head _) rfl) rfl rfl ⟨_, rfl, rfl⟩ ?_
              refine o1 rfl (det_leq rfl rfl) rfl rfl ⟨_, rfl, rfl⟩ ?_
              refine o1 rfl (det_pickT rfl rfl) rfl rfl trivial ?_
              refine o1 rfl (det_assign rfl) rfl rfl trivial ?_
              refine be rfl ?_
              refine k_then ?_
              refine t_ret ?_
              refine ret_tmp rfl rfl rfl (fun w1 hs => ?_)
              first | exact ⟨rfl, hs.keep⟩ | exact ⟨by grind [okI], hs.keep⟩
            ·
              refine on rfl rfl rfl ⟨_, rfl, .inl rfl⟩ ?_
              refine on rfl rfl rfl ⟨_, rfl, .inl rfl⟩ ?_
              refine on rfl rfl rfl ⟨_, rfl, .inl rfl⟩ ?_
              refine o1 rfl (det_pickF rfl rfl) rfl rfl trivial ?_
              refine o1 rfl (det_assign rfl) rfl rfl trivial ?_
              refine be rfl ?_
              refine k_then ?_
              refine t_ret ?_
              refine ret_tmp rfl rfl rfl (fun w1 hs => ?_)
              first | exact ⟨rfl, hs.keep⟩ | exact ⟨by grind [okI], hs.keep⟩
          ·
            refine on rfl rfl rfl ⟨_, rfl, .inl rfl⟩ ?_
            refine on rfl rfl rfl ⟨_, rfl, .inl rfl⟩ ?_
            refine on rfl rfl rfl ⟨_, rfl, .inl rfl⟩ ?_
            refine o1 rfl (det_pickF rfl rfl) rfl rfl trivial ?_
            refine o1 rfl (det_move rfl) rfl rfl trivial ?_
            refine on rfl rfl rfl ⟨_, rfl, .inl rfl⟩ ?_
            refine on rfl rfl rfl ⟨_, rfl, .inl rfl⟩ ?_
            refine on rfl rfl rfl ⟨_, rfl, .inl rfl⟩ ?_
            refine o1 rfl (det_pickF rfl rfl) rfl rfl trivial ?_
            refine o1 rfl (det_assign rfl) rfl rfl trivial ?_
            refine be rfl ?_
            refine k_then ?_
            refine t_ret ?_
            refine ret_tmp rfl rfl rfl (fun w1 hs => ?_)
            first | exact ⟨rfl, hs.keep⟩ | exact ⟨by grind [okI], hs.keep⟩
        ·
          refine on rfl rfl rfl ⟨_, rfl, .inl rfl⟩ ?_
          refine on rfl rfl rfl ⟨_, rfl, .inl rfl⟩ ?_
          refine on rfl rfl rfl ⟨_, rfl, .inl rfl⟩ ?_
          refine o1 rfl (det_pickF rfl rfl) rfl rfl trivial ?_
          refine o1 rfl (det_move rfl) rfl rfl trivial ?_
          refine on rfl rfl rfl ⟨_, rfl, .inl rfl⟩ ?_
          refine on rfl rfl rfl ⟨_, rfl, .inl rfl⟩ ?_
          refine on rfl rfl rfl ⟨_, rfl, .inl rfl⟩ ?_
          refine o1 rfl (det_pickF rfl rfl) rfl rfl trivial ?_
          refine o1 rfl (det_move rfl) rfl rfl trivial ?_
          refine on rfl rfl rfl ⟨_, rfl, .inl rfl⟩ ?_
          refine on rfl rfl rfl ⟨_, rfl, .inl rfl⟩ ?_
          refine on rfl rfl rfl ⟨_, rfl, .inl rfl⟩ ?_
          refine o1 rfl (det_pickF rfl rfl) rfl rfl trivial ?_
          refine o1 rfl (det_assign rfl) rfl rfl trivial ?_
          refine be rfl ?_
          refine k_then ?_
          refine t_ret ?_
          refine ret_tmp rfl rfl rfl (fun w1 hs => ?_)
          first | exact ⟨rfl, hs.keep⟩ | exact ⟨by grind [okI], hs.keep⟩
      ·
        refine on rfl rfl rfl ⟨_, rfl, .inl rfl⟩ ?_
        refine on rfl rfl rfl ⟨_, rfl, .inl rfl⟩ ?_
        refine on rfl rfl rfl ⟨_, rfl, .inl rfl⟩ ?_
        refine o1 rfl (det_pickF rfl rfl) rfl rfl trivial ?_
        refine o1 rfl (det_move rfl) rfl rfl trivial ?_
        refine on rfl rfl rfl ⟨_, rfl, .inl rfl⟩ ?_
        refine on rfl rfl rfl ⟨_, rfl, .inl rfl⟩ ?_
        refine on rfl rfl rfl ⟨_, rfl, .inl rfl⟩ ?_
        refine o1 rfl (det_pickF rfl rfl) rfl rfl trivial ?_
        refine o1 rfl (det_move rfl) rfl rfl trivial ?_
        refine on rfl rfl rfl ⟨_, rfl, .inl rfl⟩ ?_
        refine on rfl rfl rfl ⟨_, rfl, .inl rfl⟩ ?_
        refine on rfl rfl rfl ⟨_, rfl, .inl rfl⟩ ?_
        refine o1 rfl (det_pickF rfl rfl) rfl rfl trivial ?_
        refine o1 rfl (det_move rfl) rfl rfl trivial ?_
        refine on rfl rfl rfl ⟨_, rfl, .inl rfl⟩ ?_
        refine on rfl rfl rfl ⟨_, rfl, .inl rfl⟩ ?_
        refine on rfl rfl rfl ⟨_, rfl, .inl rfl⟩ ?_
        refine o1 rfl (det_pickF rfl rfl) rfl rfl trivial ?_
        refine o1 rfl (det_assign rfl) rfl rfl trivial ?_
        refine be rfl ?_
        refine k_then ?_
        refine t_ret ?_
        refine ret_tmp rfl rfl rfl (fun w1 hs => ?_)
        first | exact ⟨rfl, hs.keep⟩ | exact ⟨by grind [okI], hs.keep⟩
    ·
      refine on rfl rfl rfl ⟨_, rfl, .inl rfl⟩ ?_
      refine on rfl rfl rfl ⟨_, rfl, .inl rfl⟩ ?_
      refine on rfl rfl rfl ⟨_, rfl, .inl rfl⟩ ?_
      refine o1 rfl (det_pickF rfl rfl) rfl rfl trivial ?_
      refine o1 rfl (det_move rfl) rfl rfl trivial ?_
      refine on rfl rfl rfl ⟨_, rfl, .inl rfl⟩ ?_
      refine on rfl rfl rfl ⟨_, rfl, .inl rfl⟩ ?_
      refine on rfl rfl rfl ⟨_, rfl, .inl rfl⟩ ?_
      refine o1 rfl (det_pickF rfl rfl) rfl rfl trivial ?_
      refine o1 rfl (det_move rfl) rfl rfl trivial ?_
      refine on rfl rfl rfl ⟨_, rfl, .inl rfl⟩ ?_
      refine on rfl rfl rfl ⟨_, rfl, .inl rfl⟩ ?_
      refine on rfl rfl rfl ⟨_, rfl, .inl rfl⟩ ?_
      refine o1 rfl (det_pickF rfl rfl) rfl rfl trivial ?_
      refine o1 rfl (det_move rfl) rfl rfl trivial ?_
      refine on rfl rfl rfl ⟨_, rfl, .inl rfl⟩ ?_
      refine on rfl rfl rfl ⟨_, rfl, .inl rfl⟩ ?_
      refine on rfl rfl rfl ⟨_, rfl, .inl rfl⟩ ?_
      refine o1 rfl (det_pickF rfl rfl) rfl rfl trivial ?_
      refine o1 rfl (det_move rfl) rfl rfl trivial ?_
      refine on rfl rfl rfl ⟨_, rfl, .inl rfl⟩ ?_
      refine on rfl rfl rfl ⟨_, rfl, .inl rfl⟩ ?_
      refine on rfl rfl rfl ⟨_, rfl, .inl rfl⟩ ?_
      refine o1 rfl (det_pickF rfl rfl) rfl rfl trivial ?_
      refine o1 rfl (det_assign rfl) rfl rfl trivial ?_
      refine be rfl ?_
      refine k_then ?_
      refine t_ret ?_
      refine ret_tmp rfl rfl rfl (fun w1 hs => ?_)
      first | exact ⟨rfl, hs.keep⟩ | exact ⟨by grind [okI], hs.keep⟩
  ·
    refine on rfl rfl rfl ⟨_, rfl, .inl rfl⟩ ?_
    refine on rfl rfl rfl ⟨_, rfl, .inl rfl⟩ ?_
    refine on rfl rfl rfl ⟨_, rfl, .inl rfl⟩ ?_
    refine o1 rfl (det_pickF rfl rfl) rfl rfl trivial ?_
    refine o1 rfl (det_move rfl) rfl rfl trivial ?_
    refine on rfl rfl rfl ⟨_, rfl, .inl rfl⟩ ?_
    refine on rfl rfl rfl ⟨_, rfl, .inl rfl⟩ ?_
    refine on rfl rfl rfl ⟨_, rfl, .inl rfl⟩ ?_
    refine o1 rfl (det_pickF rfl rfl) rfl rfl trivial ?_
    refine o1 rfl (det_move rfl) rfl rfl trivial ?_
    refine on rfl rfl rfl ⟨_, rfl, .inl rfl⟩ ?_
    refine on rfl rfl rfl ⟨_, rfl, .inl rfl⟩ ?_
    refine on rfl rfl rfl ⟨_, rfl, .inl rfl⟩ ?_
    refine o1 rfl (det_pickF rfl rfl) rfl rfl trivial ?_
    refine o1 rfl (det_move rfl) rfl rfl trivial ?_
    refine on rfl rfl rfl ⟨_, rfl, .inl rfl⟩ ?_
    refine on rfl rfl rfl ⟨_, rfl, .inl rfl⟩ ?_
    refine on rfl rfl rfl ⟨_, rfl, .inl rfl⟩ ?_
    refine o1 rfl (det_pickF rfl rfl) rfl rfl trivial ?_
    refine o1 rfl (det_move rfl) rfl rfl trivial ?_
    refine on rfl rfl rfl ⟨_, rfl, .inl rfl⟩ ?_
    refine on rfl rfl rfl ⟨_, rfl, .inl rfl⟩ ?_
    refine on rfl rfl rfl ⟨_, rfl, .inl rfl⟩ ?_
    refine o1 rfl (det_pickF rfl rfl) rfl rfl trivial ?_
    refine o1 rfl (det_move rfl) rfl rfl trivial ?_
    refine on rfl rfl rfl ⟨_, rfl, .inl rfl⟩ ?_
    refine on rfl rfl rfl ⟨_, rfl, .inl rfl⟩ ?_
    refine on rfl rfl rfl ⟨_, rfl, .inl rfl⟩ ?_
    refine o1 rfl (det_pickF rfl rfl) rfl rfl trivial ?_
    refine o1 rfl (det_assign rfl) rfl rfl trivial ?_
    refine be rfl ?_
    refine k_then ?_
    refine t_ret ?_
    refine ret_tmp rfl rfl rfl (fun w1 hs => ?_)
    first | exact ⟨rfl, hs.keep⟩ | exact ⟨by grind [okI], hs.keep⟩

/-- whole. -/
theorem whole_ok {w : World} {F : Know} (hF : ∀ a v, F a = some v → w.cell? a = some v) {x : It} : Pure Try.prog 87 [.agg [.int .i64 x.st, .int .i64 x.sq, .int .i64 x.cl, .int .i64 x.sz, .int .i64 x.sn].toArray] w (.agg [.int .i64 x.st, .int .i64 x.sq, .int .i64 x.cl, .int .i64 x.sz, .int .i64 x.sn, .int .i64 x.sz, .bool false].toArray) := by
  refine fn_pure (F := F) Try.func87 rfl Try.ntmps87 rfl hF ?_
  refine t_seq ?_
  refine b0 ?_
  refine om1 rfl (new_boxN rfl) rfl rfl trivial (fun p1 => ?_)
  refine om1 rfl (new_alloc z57) rfl rfl trivial (fun p2 => ?_)
  refine be rfl ?_
  refine k_then ?_
  refine t_seq ?_
  refine b0 ?_
  refine o1 rfl (det_loadN tN55 rfl rfl (.tail _ (.head _)) rfl) rfl rfl trivial ?_
  refine o1 rfl (det_fieldAddr fld55_3 rfl) rfl rfl trivial ?_
  refine o1 rfl (det_load1 t1_3 rfl rfl (.tail _ (.head _)) rfl) rfl rfl trivial ?_
  refine o1 rfl (det_build rfl (fun w => bld57_0_1 _ _ _ _ _ _ w)) rfl rfl trivial ?_
  refine stN nofun rfl tN57 rfl rfl rfl .head rfl trivial rfl rfl ?_
  refine be rfl ?_
  refine k_then ?_
  refine t_ret ?_
  refine ret_any (vs := [_]) rfl rfl ⟨(.cellN tN57 rfl rfl (.head _) rfl), trivial⟩ rfl (fun w1 hs => ?_)
  first | exact ⟨rfl, hs.keep⟩ | exact ⟨by grind [], hs.keep⟩

/-- CheckPart. -/
theorem cpart_ok {w : World} {F : Know} (hF : ∀ a v, F a = some v → w.cell? a = some v) {p : Pt} : Pure Try.prog 53 [.agg [.int .i64 p.it.st, .int .i64 p.it.sq, .int .i64 p.it.cl, .int .i64 p.it.sz, .int .i64 p.it.sn, .int .i64 p.left, .bool p.rest].toArray] w (.int .i64 (if okP p then 0 else 460)) := by
  refine fn_pure (F := F) Try.func53 rfl Try.ntmps53 rfl hF ?_
  refine t_seq ?_
  refine b0 ?_
  refine om1 rfl (new_boxN rfl) rfl rfl trivial (fun p1 => ?_)
  refine o1 rfl (det_assign rfl) rfl rfl trivial ?_
  refine be rfl ?_
  refine k_then ?_
  refine t_seq ?_
  refine t_seq ?_
  refine b0 ?_
  refine o1 rfl (det_fieldAddr fld57_0 rfl) rfl rfl trivial ?_
  refine o1 rfl (det_loadN tN55 rfl rfl (.head _) rfl) rfl rfl trivial ?_
  refine o1 rfl (det_call hb77 rfl rfl (fun w1 hs => citem_ok hs.know)) rfl rfl trivial ?_
  refine o1 rfl (det_assign rfl) rfl rfl trivial ?_
  refine be rfl ?_
  refine k_then ?_
  refine t_seq ?_
  refine b0 ?_
  refine o1 rfl (det_move rfl) rfl rfl trivial ?_
  refine o1 rfl (det_neq rfl rfl) rfl rfl trivial ?_
  refine be rfl ?_
  refine k_then ?_
  refine t_condP bne_iff_ne rfl (fun hb => ?_) (fun hb => ?_)
  ·
    refine t_seq ?_
    refine b0 ?_
    refine o1 rfl (det_move rfl) rfl rfl trivial ?_
    refine o1 rfl (det_assign rfl) rfl rfl trivial ?_
    refine be rfl ?_
    refine k_then ?_
    refine t_ret (k_thenR (?_))
    refine ret_tmp rfl rfl rfl (fun w1 hs => ?_)
    first | exact ⟨rfl, hs.keep⟩ | exact ⟨by grind [okP, okI], hs.keep⟩
  ·
    refine t_skip ?_
    refine k_then ?_
    refine t_seq ?_
    refine t_seq ?_
    refine bD mixed ?_
    refine r_seg 24 24 [] [0, 1, 2, 3, 4, 5, 6, 7, 8, 9, 10, 11, 12, 13, 14, 15, 16, 17, 18, 19, 20, 21, 22, 23] (by kernel_rfl) ?_
    refine s1 rfl (det_loadN tN57 rfl rfl (.head _) rfl) rfl rfl trivial rfl ?_
    refine s1 rfl (det_fieldAddr fld57_0 rfl) rfl rfl trivial rfl ?_
    refine s1 rfl (det_loadN tN55 rfl rfl (.head _) rfl) rfl rfl trivial rfl ?_
    refine s1 rfl (det_call hb87 rfl rfl (fun w1 hs => whole_ok hs.know)) rfl rfl trivial rfl ?_
    refine s1 rfl (det_eqlS rfl rfl eqg57 (fun w => eq57 _ _ _ _ _ _ _ _ _ _ _ _ _ _ w)) rfl rfl trivial rfl ?_
    refine s2P Iff.rfl rfl (det_move rfl) rfl rfl trivial rfl (fun hb => ?_) (fun hb => ?_)
    ·
      refine sn rfl rfl rfl ⟨_, rfl, .inl rfl⟩ ?_
      refine sn rfl rfl rfl ⟨_, rfl, .inl rfl⟩ ?_
      refine sn rfl rfl rfl ⟨_, rfl, .inl rfl⟩ ?_
      refine sn rfl rfl rfl ⟨_, rfl, .inr rfl⟩ ?_
      refine sn rfl rfl rfl ⟨_, rfl, .inr rfl⟩ ?_
      refine sn rfl rfl rfl ⟨_, rfl, .inr rfl⟩ ?_
      refine sn rfl rfl rfl ⟨_, rfl, .inr rfl⟩ ?_
      refine sn rfl rfl rfl ⟨_, rfl, .inl rfl⟩ ?_
      refine sn rfl rfl rfl ⟨_, rfl, .inl rfl⟩ ?_
      refine sn rfl rfl rfl ⟨_, rfl, .inr rfl⟩ ?_
      refine sn rfl rfl rfl ⟨_, rfl, .inr rfl⟩ ?_
      refine sn rfl rfl rfl ⟨_, rfl, .inr rfl⟩ ?_
      refine sn rfl rfl rfl ⟨_, rfl, .inr rfl⟩ ?_
      refine sn rfl rfl rfl ⟨_, rfl, .inr rfl⟩ ?_
      refine sn rfl rfl rfl ⟨_, rfl, .inr rfl⟩ ?_
      refine sn rfl rfl rfl ⟨_, rfl, .inr rfl⟩ ?_
      refine sn rfl rfl rfl ⟨_, rfl, .inl rfl⟩ ?_
      refine s1 rfl (det_pickT rfl rfl) rfl rfl trivial rfl ?_
      refine sg_nil ?_
      refine be rfl ?_
      refine k_then ?_
      refine t_condT rfl ?_
      refine t_seq ?_
      refine b0 ?_
      refine o1 rfl (det_assign rfl) rfl rfl trivial ?_
      refine be rfl ?_
      refine k_then ?_
      refine t_ret (k_thenR (?_))
      refine ret_tmp rfl rfl rfl (fun w1 hs => ?_)
      first | exact ⟨rfl, hs.keep⟩ | exact ⟨by grind [okP, okI], hs.keep⟩
    ·
      refine s1 rfl (det_fieldAddr fld57_2 rfl) rfl rfl ⟨_, rfl, rfl⟩ rfl ?_
      refine s1 rfl (det_load1 t1_4 rfl rfl (.head _) rfl) rfl rfl ⟨_, rfl, rfl⟩ rfl ?_
      refine s2P Iff.rfl rfl (det_move rfl) rfl rfl ⟨_, rfl, rfl⟩ rfl (fun hb => ?_) (fun hb => ?_)
      ·
        refine s1 rfl (det_fieldAddr fld57_0 rfl) rfl rfl ⟨_, rfl, rfl⟩ rfl ?_
        refine s1 rfl (det_fieldAddr fld55_2 rfl) rfl rfl ⟨_, rfl, rfl⟩ rfl ?_
        refine s1 rfl (det_load1 t1_3 rfl rfl (.head _) rfl) rfl rfl ⟨_, rfl, rfl⟩ rfl ?_
        refine s1 rfl (det_lss rfl rfl) rfl rfl ⟨_, rfl, rfl⟩ rfl ?_
        refine s1 rfl (det_pickT rfl rfl) rfl rfl ⟨_, rfl, rfl⟩ rfl ?_
        refine s2P decide_eq_true_iff rfl (det_move rfl) rfl rfl ⟨_, rfl, rfl⟩ rfl (fun hb => ?_) (fun hb => ?_)
        ·
          refine s1 rfl (det_fieldAddr fld57_1 rfl) rfl rfl ⟨_, rfl, rfl⟩ rfl ?_
          refine s1 rfl (det_load1 t1_3 rfl rfl (.head _) rfl) rfl rfl ⟨_, rfl, rfl⟩ rfl ?_
          refine s1 rfl (det_fieldAddr fld57_0 rfl) rfl rfl ⟨_, rfl, rfl⟩ rfl ?_
          refine s1 rfl (det_fieldAddr fld55_3 rfl) rfl rfl ⟨_, rfl, rfl⟩ rfl ?_
          refine s1 rfl (det_load1 t1_3 rfl rfl (.head _) rfl) rfl rfl ⟨_, rfl, rfl⟩ rfl ?_
          have hsz2 : 84 ≤ p.it.sz ∧ p.it.sz ≤ 1542 := by grind [okI]
          first | (refine s1 rfl (det_subI rfl rfl ?_) rfl rfl ⟨_, rfl, rfl⟩ rfl ?_; (· omega)) | refine s1 rfl (det_sub rfl rfl) rfl rfl ⟨_, rfl, rfl⟩ rfl ?_
          refine s1 rfl (det_call hb88 rfl rfl (fun w1 hs => within_ok hs.know)) rfl rfl ⟨_, rfl, rfl⟩ rfl ?_
          refine s1 rfl (det_pickT rfl rfl) rfl rfl ⟨_, rfl, rfl⟩ rfl ?_
          refine s1 rfl (det_pickF rfl rfl) rfl rfl trivial rfl ?_
          refine sg_nil ?_
          refine be rfl ?_
          refine k_then ?_
          refine t_condP Iff.rfl rfl (fun hb => ?_) (fun hb => ?_)
          ·
            refine t_seq ?_
            refine b0 ?_
            refine o1 rfl (det_assign rfl) rfl rfl trivial ?_
            refine be rfl ?_
            refine k_then ?_
            refine t_ret (k_thenR (?_))
            refine ret_tmp rfl rfl rfl (fun w1 hs => ?_)
            first | exact ⟨rfl, hs.keep⟩ | exact ⟨by grind [okP, okI], hs.keep⟩
          ·
            refine t_skip ?_
            refine k_then ?_
            refine t_seq ?_
            refine b0 ?_
            refine o1 rfl (det_assign rfl) rfl rfl trivial ?_
            refine be rfl ?_
            refine k_then ?_
            refine t_ret ?_
            refine ret_tmp rfl rfl rfl (fun w1 hs => ?_)
            first | exact ⟨rfl, hs.keep⟩ | exact ⟨by grind [okP, okI], hs.keep⟩
        ·
          refine sn rfl rfl rfl ⟨_, rfl, .inl rfl⟩ ?_
          refine sn rfl rfl rfl ⟨_, rfl, .inl rfl⟩ ?_
          refine sn rfl rfl rfl ⟨_, rfl, .inl rfl⟩ ?_
          refine sn rfl rfl rfl ⟨_, rfl, .inl rfl⟩ ?_
          refine sn rfl rfl rfl ⟨_, rfl, .inl rfl⟩ ?_
          refine sn rfl rfl rfl ⟨_, rfl, .inl rfl⟩ ?_
          refine sn rfl rfl rfl ⟨_, rfl, .inl rfl⟩ ?_
          refine s1 rfl (det_pickF rfl rfl) rfl rfl ⟨_, rfl, rfl⟩ rfl ?_
          refine s1 rfl (det_pickF rfl rfl) rfl rfl trivial rfl ?_
          refine sg_nil ?_
          refine be rfl ?_
          refine k_then ?_
          refine t_condF rfl ?_
          refine t_skip ?_
          refine k_then ?_
          refine t_seq ?_
          refine b0 ?_
          refine o1 rfl (det_assign rfl) rfl rfl trivial ?_
          refine be rfl ?_
          refine k_then ?_
          refine t_ret ?_
          refine ret_tmp rfl rfl rfl (fun w1 hs => ?_)
          first | exact ⟨rfl, hs.keep⟩ | exact ⟨by grind [okP, okI], hs.keep⟩
      ·
        refine sn rfl rfl rfl ⟨_, rfl, .inl rfl⟩ ?_
        refine sn rfl rfl rfl ⟨_, rfl, .inl rfl⟩ ?_
        refine sn rfl rfl rfl ⟨_, rfl, .inl rfl⟩ ?_
        refine sn rfl rfl rfl ⟨_, rfl, .inl rfl⟩ ?_
        refine s1 rfl (det_pickF rfl rfl) rfl rfl ⟨_, rfl, rfl⟩ rfl ?_
        refine s1 rfl (det_move rfl) rfl rfl ⟨_, rfl, rfl⟩ rfl ?_
        refine sn rfl rfl rfl ⟨_, rfl, .inl rfl⟩ ?_
        refine sn rfl rfl rfl ⟨_, rfl, .inl rfl⟩ ?_
        refine sn rfl rfl rfl ⟨_, rfl, .inl rfl⟩ ?_
        refine sn rfl rfl rfl ⟨_, rfl, .inl rfl⟩ ?_
        refine sn rfl rfl rfl ⟨_, rfl, .inl rfl⟩ ?_
        refine sn rfl rfl rfl ⟨_, rfl, .inl rfl⟩ ?_
        refine sn rfl rfl rfl ⟨_, rfl, .inl rfl⟩ ?_
        refine s1 rfl (det_pickF rfl rfl) rfl rfl ⟨_, rfl, rfl⟩ rfl ?_
        refine s1 rfl (det_pickF rfl rfl) rfl rfl trivial rfl ?_
        refine sg_nil ?_
        refine be rfl ?_
        refine k_then ?_
        refine t_condF rfl ?_
        refine t_skip ?_
        refine k_then ?_
        refine t_seq ?_
        refine b0 ?_
        refine o1 rfl (det_assign rfl) rfl rfl trivial ?_
        refine be rfl ?_
        refine k_then ?_
        refine t_ret ?_
        refine ret_tmp rfl rfl rfl (fun w1 hs => ?_)
        first | exact ⟨rfl, hs.keep⟩ | exact ⟨by grind [okP, okI], hs.keep⟩

/-- The reference's Part. -/
theorem rpart_ok {w : World} {F : Know} (hF : ∀ a v, F a = some v → w.cell? a = some v) {p : Pt} : Pure Try.prog 55 [.agg [.int .i64 p.it.st, .int .i64 p.it.sq, .int .i64 p.it.cl, .int .i64 p.it.sz, .int .i64 p.it.sn, .int .i64 p.left, .bool p.rest].toArray] w (.bool (okP p)) := by
  refine fn_pure (F := F) Try.func55 rfl Try.ntmps55 rfl hF ?_
  refine t_seq ?_
  refine b0 ?_
  refine om1 rfl (new_boxN rfl) rfl rfl trivial (fun p1 => ?_)
  refine o1 rfl (det_assign rfl) rfl rfl trivial ?_
  refine be rfl ?_
  refine k_then ?_
  refine t_seq ?_
  refine t_seq ?_
  refine b0 ?_
  refine o1 rfl (det_fieldAddr fld57_0 rfl) rfl rfl trivial ?_
  refine o1 rfl (det_loadN tN55 rfl rfl (.head _) rfl) rfl rfl trivial ?_
  refine o1 rfl (det_call hb89 rfl rfl (fun w1 hs => ritem_ok hs.know)) rfl rfl trivial ?_
  refine o1 rfl (det_not rfl) rfl rfl trivial ?_
  refine be rfl ?_
  refine k_then ?_
  refine t_condP not_iff_false rfl (fun hb => ?_) (fun hb => ?_)
  ·
    refine t_seq ?_
    refine b0 ?_
    refine o1 rfl (det_assign rfl) rfl rfl trivial ?_
    refine be rfl ?_
    refine k_then ?_
    refine t_ret (k_thenR (?_))
    refine ret_tmp rfl rfl rfl (fun w1 hs => ?_)
    first | exact ⟨rfl, hs.keep⟩ | exact ⟨by grind [okP, okI], hs.keep⟩
  ·
    refine t_skip ?_
    refine k_then ?_
    refine t_seq ?_
    refine t_seq ?_
    refine b0 ?_
    refine o1 rfl (det_fieldAddr fld57_2 rfl) rfl rfl trivial ?_
    refine o1 rfl (det_load1 t1_4 rfl rfl (.head _) rfl) rfl rfl trivial ?_
    refine o1 rfl (det_not rfl) rfl rfl trivial ?_
    refine be rfl ?_
    refine k_then ?_
    refine t_condP not_iff_false rfl (fun hb => ?_) (fun hb => ?_)
    ·
      refine t_seq ?_
      refine b0 ?_
      refine o1 rfl (det_fieldAddr fld57_1 rfl) rfl rfl trivial ?_
      refine o1 rfl (det_load1 t1_3 rfl rfl (.head _) rfl) rfl rfl trivial ?_
      refine o1 rfl (det_fieldAddr fld57_0 rfl) rfl rfl trivial ?_
      refine o1 rfl (det_fieldAddr fld55_3 rfl) rfl rfl trivial ?_
      refine o1 rfl (det_load1 t1_3 rfl rfl (.head _) rfl) rfl rfl trivial ?_
      refine o1 rfl (det_eql rfl rfl) rfl rfl trivial ?_
      refine o1 rfl (det_assign rfl) rfl rfl trivial ?_
      refine be rfl ?_
      refine k_then ?_
      refine t_ret (k_thenR (?_))
      refine ret_tmp rfl rfl rfl (fun w1 hs => ?_)
      first | exact ⟨rfl, hs.keep⟩ | exact ⟨by grind [okP, okI], hs.keep⟩
    ·
      refine t_skip ?_
      refine k_then ?_
      refine t_seq ?_
      refine b0 ?_
      refine o1 rfl (det_fieldAddr fld57_0 rfl) rfl rfl trivial ?_
      refine o1 rfl (det_fieldAddr fld55_2 rfl) rfl rfl trivial ?_
      refine o1 rfl (det_load1 t1_3 rfl rfl (.head _) rfl) rfl rfl trivial ?_
      refine o1 rfl (det_leq rfl rfl) rfl rfl trivial ?_
      refine o2P decide_eq_true_iff rfl (det_move rfl) rfl rfl trivial (fun hb => ?_) (fun hb => ?_)
      ·
        refine o1 rfl (det_fieldAddr fld57_1 rfl) rfl rfl ⟨_, rfl, rfl⟩ ?_
        refine o1 rfl (det_load1 t1_3 rfl rfl (.head _) rfl) rfl rfl ⟨_, rfl, rfl⟩ ?_
        refine o1 rfl (det_geq rfl rfl) rfl rfl ⟨_, rfl, rfl⟩ ?_
        refine o1 rfl (det_pickT rfl rfl) rfl rfl trivial ?_
        refine o2P decide_eq_true_iff rfl (det_move rfl) rfl rfl trivial (fun hb => ?_) (fun hb => ?_)
        ·
          refine o1 rfl (det_fieldAddr fld57_1 rfl) rfl rfl ⟨_, rfl, rfl⟩ ?_
          refine o1 rfl (det_load1 t1_3 rfl rfl (.head _) rfl) rfl rfl ⟨_, rfl, rfl⟩ ?_
          refine o1 rfl (det_fieldAddr fld57_0 rfl) rfl rfl ⟨_, rfl, rfl⟩ ?_
          refine o1 rfl (det_fieldAddr fld55_3 rfl) rfl rfl ⟨_, rfl, rfl⟩ ?_
          refine o1 rfl (det_load1 t1_3 rfl rfl (.head _) rfl) rfl rfl ⟨_, rfl, rfl⟩ ?_
          have hsz2 : 84 ≤ p.it.sz ∧ p.it.sz ≤ 1542 := by grind [okI]
          first | (refine o1 rfl (det_subI rfl rfl ?_) rfl rfl ⟨_, rfl, rfl⟩ ?_; (· omega)) | refine o1 rfl (det_sub rfl rfl) rfl rfl ⟨_, rfl, rfl⟩ ?_
          refine o1 rfl (det_leq rfl rfl) rfl rfl ⟨_, rfl, rfl⟩ ?_
          refine o1 rfl (det_pickT rfl rfl) rfl rfl trivial ?_
          refine o1 rfl (det_assign rfl) rfl rfl trivial ?_
          refine be rfl ?_
          refine k_then ?_
          refine t_ret ?_
          refine ret_tmp rfl rfl rfl (fun w1 hs => ?_)
          first | exact ⟨rfl, hs.keep⟩ | exact ⟨by grind [okP, okI], hs.keep⟩
        ·
          refine on rfl rfl rfl ⟨_, rfl, .inl rfl⟩ ?_
          refine on rfl rfl rfl ⟨_, rfl, .inl rfl⟩ ?_
          refine on rfl rfl rfl ⟨_, rfl, .inl rfl⟩ ?_
          refine on rfl rfl rfl ⟨_, rfl, .inl rfl⟩ ?_
          refine on rfl rfl rfl ⟨_, rfl, .inl rfl⟩ ?_
          refine on rfl rfl rfl ⟨_, rfl, .inl rfl⟩ ?_
          refine on rfl rfl rfl ⟨_, rfl, .inl rfl⟩ ?_
          refine o1 rfl (det_pickF rfl rfl) rfl rfl trivial ?_
          refine o1 rfl (det_assign rfl) rfl rfl trivial ?_
          refine be rfl ?_
          refine k_then ?_
          refine t_ret ?_
          refine ret_tmp rfl rfl rfl (fun w1 hs => ?_)
          first | exact ⟨rfl, hs.keep⟩ | exact ⟨by grind [okP, okI], hs.keep⟩
      ·
        refine on rfl rfl rfl ⟨_, rfl, .inl rfl⟩ ?_
        refine on rfl rfl rfl ⟨_, rfl, .inl rfl⟩ ?_
        refine on rfl rfl rfl ⟨_, rfl, .inl rfl⟩ ?_
        refine o1 rfl (det_pickF rfl rfl) rfl rfl trivial ?_
        refine o1 rfl (det_move rfl) rfl rfl trivial ?_
        refine on rfl rfl rfl ⟨_, rfl, .inl rfl⟩ ?_
        refine on rfl rfl rfl ⟨_, rfl, .inl rfl⟩ ?_
        refine on rfl rfl rfl ⟨_, rfl, .inl rfl⟩ ?_
        refine on rfl rfl rfl ⟨_, rfl, .inl rfl⟩ ?_
        refine on rfl rfl rfl ⟨_, rfl, .inl rfl⟩ ?_
        refine on rfl rfl rfl ⟨_, rfl, .inl rfl⟩ ?_
        refine on rfl rfl rfl ⟨_, rfl, .inl rfl⟩ ?_
        refine o1 rfl (det_pickF rfl rfl) rfl rfl trivial ?_
        refine o1 rfl (det_assign rfl) rfl rfl trivial ?_
        refine be rfl ?_
        refine k_then ?_
        refine t_ret ?_
        refine ret_tmp rfl rfl rfl (fun w1 hs => ?_)
        first | exact ⟨rfl, hs.keep⟩ | exact ⟨by grind [okP, okI], hs.keep⟩

end Go.Proofs.Cp
