/-
  Walks through layers 36, 37 and 38 and their references.
-/
import Derived.Test.YtffocfffggfenaaCpC13
import Derived.Test.YtffocfffggfenaaChPlain9
import Derived.Test.YtffocfffggfenaaEng26
namespace Go.Proofs.Cp
open Go Go.Eng Go.Gt Go.Proofs.Gt Go.Sw Go.Qu Go.Ch
set_option maxRecDepth 4000

/-- half. -/
theorem half_ok {w : World} {F : Know} (hF : ∀ a v, F a = some v → w.cell? a = some v)  : CallsF Try.prog 30 [] w noK (fun v F2 => ∃ A k n, v = .agg (lnv (halfL A n k)).toArray ∧ LnK F2 (halfL A n k)) := by
  refine fn_fresh (F := F) Try.func30 rfl Try.ntmps30 rfl hF ?_
  refine t_seq ?_
  refine b0 ?_
  refine om1 rfl (new_alloc z26) rfl rfl trivial (fun p0 => ?_)
  refine be rfl ?_
  refine k_then ?_
  refine t_seq ?_
  refine b0 ?_
  refine o1 rfl (det_build rfl (fun w => bld59_0_1 _ _ w)) rfl rfl trivial ?_
  refine o1 rfl (det_build rfl (fun w => bld59_0_1 _ _ w)) rfl rfl trivial ?_
  refine om1 rfl (new_buildSlice rfl (fun w => bsl22_2_0_1 _ _ _ _ w)) rfl rfl trivial (fun p3 => ?_)
  refine o1 rfl (det_build rfl (fun w => bld24_0_1 _ _ _ _ w)) rfl rfl trivial ?_
  refine o1 rfl (det_build rfl (fun w => bld26_0_1 _ _ _ _ _ w)) rfl rfl trivial ?_
  refine stN nofun rfl tN26 rfl rfl rfl (.tail .head) rfl trivial rfl rfl ?_
  refine be rfl ?_
  refine k_then ?_
  refine t_ret ?_
  refine ret_any (vs := [_]) rfl rfl ⟨(.cellN tN26 rfl rfl (.tail _ (.head _)) rfl), trivial⟩ rfl (fun w1 hs => ?_)
  exact end_fresh hs fun F2 _ _ h => ⟨_, _, _, rfl, entK_lit (es := halfE) (by decide) fun k u hk => h _ _ _ _ k (.head _) u (by rw [← Array.getElem?_toList]; exact hk)⟩

/-- frame. -/
theorem frame_ok {w : World} {F : Know} (hF : ∀ a v, F a = some v → w.cell? a = some v) {cc z : Int} : Pure Try.prog 31 [.int .i64 cc, .int .i64 z] w (.agg (ptv (frameP cc z)).toArray) := by
  refine fn_pure (F := F) Try.func31 rfl Try.ntmps31 rfl hF ?_
  refine t_seq ?_
  refine b0 ?_
  refine om1 rfl (new_alloc z57) rfl rfl trivial (fun p4 => ?_)
  refine be rfl ?_
  refine k_then ?_
  refine t_seq ?_
  refine b0 ?_
  refine o1 rfl (det_move rfl) rfl rfl trivial ?_
  refine o1 rfl (det_move rfl) rfl rfl trivial ?_
  refine o1 rfl (det_build rfl (fun w => bld55_2_3 _ _ w)) rfl rfl trivial ?_
  refine o1 rfl (det_move rfl) rfl rfl trivial ?_
  refine o1 rfl (det_build rfl (fun w => bld57_0_1 _ _ _ _ _ _ w)) rfl rfl trivial ?_
  refine stN nofun rfl tN57 rfl rfl rfl .head rfl trivial rfl rfl ?_
  refine be rfl ?_
  refine k_then ?_
  refine t_ret ?_
  refine ret_any (vs := [_]) rfl rfl ⟨(.cellN tN57 rfl rfl (.head _) rfl), trivial⟩ rfl (fun w1 hs => ?_)
  exact ⟨rfl, hs.keep⟩

/-- heads. -/
theorem heads_ok {w : World} {F : Know} (hF : ∀ a v, F a = some v → w.cell? a = some v) {A : Option Addr} {n c : Nat} {ps : List Pt} (hP : PK F A n ps) (hnb : n ≤ 100000) (hcl : ∀ p ∈ ps, 0 ≤ p.it.cl ∧ p.it.cl ≤ 7) : CallsF Try.prog 32 [.slice A n c] w noK (fun v F2 => ∃ q : Nat, v = .slice (some ⟨q, 0, none⟩) 8 8 ∧ PK F2 (some ⟨q, 0, none⟩) 8 (headsL ps)) := by
  refine fn_fresh (F := F) Try.func32 rfl Try.ntmps32 rfl hF ?_
  refine t_seq ?_
  refine b0 ?_
  refine o1 rfl (det_assign rfl) rfl rfl trivial ?_
  refine be rfl ?_
  refine k_then ?_
  refine t_seq ?_
  refine b0 ?_
  refine om1 rfl (new_makeSlice mk27 rfl rfl (by omega) (by omega) (by omega) (by omega)) rfl rfl trivial (fun p6 => ?_)
  refine o1 rfl (det_assign rfl) rfl rfl trivial ?_
  refine be rfl ?_
  refine k_then ?_
  refine t_seq ?_
  refine t_seq ?_
  refine b0 ?_
  refine o1 rfl (det_move rfl) rfl rfl trivial ?_
  refine o1 rfl (det_lenS sl27 rfl) rfl rfl trivial ?_
  refine o1 rfl (det_move rfl) rfl rfl trivial ?_
  refine be rfl ?_
  refine k_then ?_
  refine t_block ?_
  refine t_whileM (σ := Nat) (fun s => [(9, .int .i64 (s : Int))]) (fun s => [(p6, .cells (rowsV ptv (headK ps s)).toArray 57 (0, 0))]) (fun s => n - s) (fun s => s ≤ n) 0 (env0 := [(2, _), (3, _), (7, _), (8, _)]) (Nat.zero_le _) ⟨rfl, trivial⟩ ⟨rfl, rfl, rfl, rfl, trivial⟩ (.refl _) ?_
  rintro s hsn
  refine t_seq ?_
  refine b0 ?_
  refine o1 rfl (det_lss rfl rfl) rfl rfl trivial ?_
  refine be rfl ?_
  refine k_then ?_
  refine t_seq ?_
  refine t_condP decide_eq_true_iff rfl (fun hb => ?_) (fun hb => ?_)
  ·
    have hlt : s < ps.length := by have := hP.len; omega
    obtain ⟨A, rfl⟩ := hP.some hlt
    refine t_skip ?_
    refine k_then ?_
    refine t_seq ?_
    refine t_block ?_
    refine t_seq ?_
    refine b0 ?_
    first | (refine o1 rfl (det_indexAddr sl27 rfl rfl ?_) rfl rfl trivial ?_; (· (first | decide | omega)))
    refine o1 rfl (det_loadKN tN57 rfl (ptv_len ps[s]) (hP.cells (i := (s : Int)) (k := s) (Int.toNat_natCast s) hlt (ptv_len _))) rfl rfl trivial ?_
    refine om1 rfl (new_alloc z57) rfl rfl trivial (fun p5 => ?_)
    refine stN nofun rfl tN57 rfl rfl rfl .head rfl trivial rfl rfl ?_
    refine be rfl ?_
    refine k_then ?_
    refine b0 ?_
    have hr := hcl ps[s] (List.getElem_mem hlt)
    have hk8 : ps[s].it.cl.toNat < (headK ps s).length := by rw [headK_len]; omega
    have hset : setV (ps[s].it.cl.toNat * 7) (ptv ps[s]) (rowsV ptv (headK ps s)) some = some (rowsV ptv (headK ps (s + 1))) := by
      have h1 := setV_splice (off := ps[s].it.cl.toNat * 7) (vs := ptv ps[s]) (l := rowsV ptv (headK ps s)) some (by rw [ptv_len, rowsV_len ptv_len, headK_len]; omega)
      rw [h1, headK_succ hlt]
      have h2 := splice_rows ptv_len hk8 ps[s] []
      rw [List.append_nil, List.append_nil] at h2
      rw [h2]
    refine o1 rfl (det_move rfl) rfl rfl trivial ?_
    refine o1 rfl (det_fieldAddr fld57_0 rfl) rfl rfl trivial ?_
    refine o1 rfl (det_fieldAddr fld55_2 rfl) rfl rfl trivial ?_
    refine o1 rfl (det_load1 t1_3 rfl rfl (.head _) rfl) rfl rfl trivial ?_
    refine o1 rfl (det_loadN tN57 rfl rfl (.head _) rfl) rfl rfl trivial ?_
    first | (refine o1 rfl (det_indexAddr sl27 rfl rfl ?_) rfl rfl trivial ?_; (· (first | decide | omega)))
    refine stN nofun rfl tN57 rfl (by rw [add_mk, Nat.zero_add]) rfl (.tail .head) hset trivial rfl rfl ?_
    refine be rfl ?_
    refine k_blk ?_
    refine k_then ?_
    refine b0 ?_
    first | (refine o1 rfl (det_addI rfl rfl ?_) rfl rfl trivial ?_; (· omega)) | refine o1 rfl (det_add rfl rfl) rfl rfl trivial ?_
    refine o1 rfl (det_move rfl) rfl rfl trivial ?_
    refine be rfl ?_
    refine k_then ?_
    refine loop_back (s + 1) (by omega) (by omega) ⟨rfl, rfl, rfl, rfl, rfl, trivial⟩ (.cons _ (.refl _))
  ·
    have hse : ps.length ≤ s := by have := hP.len; omega
    rw [headK_all hse] at *
    refine t_exit ?_
    refine k_thenE ?_
    refine k_thenE ?_
    refine k_blkE ?_
    refine k_then ?_
    refine t_seq ?_
    refine b0 ?_
    refine o1 rfl (det_move rfl) rfl rfl trivial ?_
    refine o1 rfl (det_assign rfl) rfl rfl trivial ?_
    refine be rfl ?_
    refine k_then ?_
    refine t_ret ?_
    refine ret_tmp rfl rfl rfl (fun w1 hs => ?_)
    exact end_fresh hs fun F2 _ _ h => ⟨_, rfl, rowsK_of ptv_len (by decide) (fun j u hj => ⟨_, rfl, by rw [add_mk, Nat.zero_add]; exact h _ _ _ _ j (.head _) u (by rw [← Array.getElem?_toList]; exact hj)⟩) (headsL_len ps).symm⟩

end Go.Proofs.Cp
