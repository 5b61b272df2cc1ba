/-
  Walks through layers 36, 37 and 38 and their references.
-/
import Derived.Test.YtffocfffggfenaaCpC4
namespace Go.Proofs.Cp
open Go Go.Eng Go.Gt Go.Proofs.Gt Go.Sw Go.Qu Go.Ch
set_option maxRecDepth 4000

/-- long. -/
theorem long_ok {w : World} {F : Know} (hF : ∀ a v, F a = some v → w.cell? a = some v) {l : Ln} {A : Option Addr} {n c : Nat} {hs0 : List Pt} (hP : PK F A n hs0) (h8 : hs0.length = 8) {cl : Int} (hcl : 0 ≤ cl ∧ cl ≤ 7) (hper : 1 ≤ l.per ∧ l.per ≤ 1000) (hleft : 0 ≤ (atP hs0 cl.toNat).left ∧ (atP hs0 cl.toNat).left ≤ 1542) : Pure Try.prog 65 [.agg [.slice l.g.A l.g.n l.g.cap, .int .i64 l.g.cyc, .int .i64 l.per, .int .i64 l.sh, .slice A n c].toArray, .int .i64 cl] w (.int .i64 (longC l hs0 cl)) := by
  have hnl := hP.len
  have hlt : cl.toNat < hs0.length := by omega
  obtain ⟨A, rfl⟩ := hP.some hlt
  refine fn_pure (F := F) Try.func65 rfl Try.ntmps65 rfl hF ?_
  refine t_seq ?_
  refine b0 ?_
  refine om1 rfl (new_boxN rfl) rfl rfl trivial (fun p2 => ?_)
  refine o1 rfl (det_assign rfl) rfl rfl trivial ?_
  refine be rfl ?_
  refine k_then ?_
  refine t_seq ?_
  refine bD mixed ?_
  refine r_seg 11 11 [] [0, 1, 2, 3, 4, 5, 6, 7, 8, 9, 10] (by kernel_rfl) ?_
  refine s1 rfl (det_fieldAddr fld107_1 rfl) rfl rfl trivial rfl ?_
  refine s1 rfl (det_load1 t1_27 rfl rfl (.head _) rfl) rfl rfl trivial rfl ?_
  refine s1 rfl (det_move rfl) rfl rfl trivial rfl ?_
  first | (refine s1 rfl (det_indexAddr sl27 rfl rfl ?_) rfl rfl trivial rfl ?_; (· (first | decide | omega)))
  refine s1 rfl (det_fieldAddr fld57_1 rfl) rfl rfl trivial rfl ?_
  refine s1 rfl (det_loadK t1_3 rfl (hP.cell (i := cl) (k := cl.toNat) rfl hlt (j := 5) (u := .int .i64 (atP hs0 cl.toNat).left) (by rw [atP_get hlt]; rfl))) rfl rfl trivial rfl ?_
  refine s1 rfl (det_fieldAddr fld107_0 rfl) rfl rfl trivial rfl ?_
  refine s1 rfl (det_fieldAddr fld26_1 rfl) rfl rfl trivial rfl ?_
  refine s1 rfl (det_load1 t1_3 rfl rfl (.head _) rfl) rfl rfl trivial rfl ?_
  have hm : 0 ≤ (atP hs0 cl.toNat).left * l.per ∧ (atP hs0 cl.toNat).left * l.per ≤ 1542 * 1000 := ⟨Int.mul_nonneg hleft.1 (by omega), Int.mul_le_mul hleft.2 hper.2 (by omega) (by decide)⟩
  first | (refine s1 rfl (det_mulI rfl rfl ?_) rfl rfl trivial rfl ?_; (· omega)) | refine s1 rfl (det_mul rfl rfl) rfl rfl trivial rfl ?_
  refine s1 rfl (det_assign rfl) rfl rfl trivial rfl ?_
  refine sg_nil ?_
  refine be rfl ?_
  refine k_then ?_
  refine t_ret ?_
  refine ret_tmp rfl rfl rfl (fun w1 hs => ?_)
  exact ⟨rfl, hs.keep⟩

end Go.Proofs.Cp
