/-
  Walks through layers 36, 37 and 38 and their references.
-/
import Derived.Test.YtffocfffggfenaaCpC6
namespace Go.Proofs.Cp
open Go Go.Eng Go.Gt Go.Proofs.Gt Go.Sw Go.Qu Go.Ch
set_option maxRecDepth 4000

theorem Fits_at {w : World} {F : Know} (hF : ∀ a v, F a = some v → w.cell? a = some v) {l : Ln} (hl : LnK F l) {cl t lg : Int} (hcl : 0 ≤ cl ∧ cl ≤ 7) : Pure Try.prog 47 [.agg (glv l.g).toArray, .int .i64 cl, .int .i64 t, .int .i64 lg] w (.tuple [.bool (fitsA l.g.es l.g.cyc cl t lg).1, .int .i64 (fitsA l.g.es l.g.cyc cl t lg).2].toArray) := Fits_ok (cap := l.g.cap) hF hl cl (by omega) t lg
/-- fits. -/
theorem vfits_ok {w : World} {F : Know} (hF : ∀ a v, F a = some v → w.cell? a = some v) {l : Ln} (hl : LnK F l) {A : Option Addr} {n c : Nat} {hs0 : List Pt} (hP : PK F A n hs0) (h8 : hs0.length = 8) {cl : Int} (hcl : 0 ≤ cl ∧ cl ≤ 7) (hper : 1 ≤ l.per ∧ l.per ≤ 1000) (hleft : 0 ≤ (atP hs0 cl.toNat).left ∧ (atP hs0 cl.toNat).left ≤ 1542) {t : Int} (hsh : -1000 ≤ l.sh ∧ l.sh ≤ 1000) (ht : -4000000000000 ≤ t ∧ t ≤ 4000000000000) : Pure Try.prog 58 [.agg [.slice l.g.A l.g.n l.g.cap, .int .i64 l.g.cyc, .int .i64 l.per, .int .i64 l.sh, .slice A n c].toArray, .int .i64 cl, .int .i64 t] w (.bool (fitC l hs0 cl t)) := by
  refine fn_pure (F := F) Try.func58 rfl Try.ntmps58 rfl hF ?_
  refine t_seq ?_
  refine b0 ?_
  refine om1 rfl (new_boxN rfl) rfl rfl trivial (fun p3 => ?_)
  refine o1 rfl (det_assign rfl) rfl rfl trivial ?_
  refine be rfl ?_
  refine k_then ?_
  refine t_seq ?_
  refine bD mixed ?_
  refine r_seg 18 18 [] [0, 1, 2, 3, 4, 5, 6, 7, 8, 9, 10, 11, 12, 13, 14, 15, 16, 17] (by kernel_rfl) ?_
  refine s1 rfl (det_fieldAddr fld107_0 rfl) rfl rfl trivial rfl ?_
  refine s1 rfl (det_fieldAddr fld26_0 rfl) rfl rfl trivial rfl ?_
  refine s1 rfl (det_loadN tN24 rfl rfl (.head _) rfl) rfl rfl trivial rfl ?_
  refine s1 rfl (det_move rfl) rfl rfl trivial rfl ?_
  refine s1 rfl (det_move rfl) rfl rfl trivial rfl ?_
  refine s1 rfl (det_fieldAddr fld107_0 rfl) rfl rfl trivial rfl ?_
  refine s1 rfl (det_fieldAddr fld26_2 rfl) rfl rfl trivial rfl ?_
  refine s1 rfl (det_load1 t1_3 rfl rfl (.head _) rfl) rfl rfl trivial rfl ?_
  first | (refine s1 rfl (det_addI rfl rfl ?_) rfl rfl trivial rfl ?_; (· omega)) | refine s1 rfl (det_add rfl rfl) rfl rfl trivial rfl ?_
  refine s1 rfl (det_loadN tN107 rfl rfl (.head _) rfl) rfl rfl trivial rfl ?_
  refine s1 rfl (det_move rfl) rfl rfl trivial rfl ?_
  refine s1 rfl (det_call hb65 rfl rfl (fun w1 hs => long_ok hs.know hP h8 hcl hper hleft)) rfl rfl trivial rfl ?_
  refine s1 rfl (det_call hb47 rfl rfl (fun w1 hs => Fits_at hs.know hl hcl)) rfl rfl trivial rfl ?_
  refine s1 rfl (det_move rfl) rfl rfl trivial rfl ?_
  refine s1 rfl (det_extract rfl rfl) rfl rfl trivial rfl ?_
  refine s1 rfl (det_extract rfl rfl) rfl rfl trivial rfl ?_
  refine s1 rfl (det_assign rfl) rfl rfl trivial rfl ?_
  refine s1 rfl (det_assign rfl) rfl rfl trivial rfl ?_
  refine sg_nil ?_
  refine be rfl ?_
  refine k_then ?_
  refine t_seq ?_
  refine b0 ?_
  refine o1 rfl (det_move rfl) rfl rfl trivial ?_
  refine o2P Iff.rfl rfl (det_move rfl) rfl rfl trivial (fun hb => ?_) (fun hb => ?_)
  ·
    refine o1 rfl (det_move rfl) rfl rfl ⟨_, rfl, rfl⟩ ?_
    refine o1 rfl (det_eql rfl rfl) rfl rfl ⟨_, rfl, rfl⟩ ?_
    refine o1 rfl (det_pickT rfl rfl) rfl rfl trivial ?_
    refine o1 rfl (det_assign rfl) rfl rfl trivial ?_
    refine be rfl ?_
    refine k_then ?_
    refine t_ret ?_
    refine ret_tmp rfl rfl rfl (fun w1 hs => ?_)
    exact ⟨by unfold fitC; grind, hs.keep⟩
  ·
    refine on rfl rfl rfl ⟨_, rfl, .inl rfl⟩ ?_
    refine on rfl rfl rfl ⟨_, rfl, .inl rfl⟩ ?_
    refine o1 rfl (det_pickF rfl rfl) rfl rfl trivial ?_
    refine o1 rfl (det_assign rfl) rfl rfl trivial ?_
    refine be rfl ?_
    refine k_then ?_
    refine t_ret ?_
    refine ret_tmp rfl rfl rfl (fun w1 hs => ?_)
    exact ⟨by unfold fitC; grind, hs.keep⟩

end Go.Proofs.Cp
