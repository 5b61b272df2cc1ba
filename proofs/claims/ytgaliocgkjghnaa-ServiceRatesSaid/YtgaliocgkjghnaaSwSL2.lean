/-
  Walks through layer 30 and its reference.
-/
import Derived.Test.YtgaliocgkjghnaaSwSW
import Derived.Test.YtgaliocgkjghnaaSwPlain3ToSvPlain10
namespace Go.Proofs.Sw
open Go Go.Eng Go.Gt Go.Proofs.Gt Go.Sw Go.Sv
set_option maxRecDepth 4000

theorem rOf_at {w : World} {F : Know} (hF : ∀ a v, F a = some v → w.cell? a = some v) {g : Gl} (hE : GlK F g) {per most : Int} : Pure Try.prog 41 [.agg (glv g).toArray, .int .i64 per, .int .i64 most] w (.tuple [.agg [.int .i64 (ofS g.es g.cyc per most).1.1, .int .i64 (ofS g.es g.cyc per most).1.2].toArray, .int .i64 (ofS g.es g.cyc per most).2].toArray) := by
  have := rOf_ok hF hE (per := per) (most := most)
  rw [rof_eq] at this; exact this
/-- ServiceRates. -/
theorem srates_ok {w : World} {F : Know} (hF : ∀ a v, F a = some v → w.cell? a = some v) {A1 A2 : Option Addr} {n1 c1 n2 c2 : Nat} {ss ls : List Int} (h1 : IntsK F .u8 A1 n1 ss) (h2 : IntsK F .u8 A2 n2 ls) {g : Gl} (hE : GlK F g) (hcap : g.n ≤ g.cap) {per most : Int} : Pure Try.prog 10 [.agg [.slice A1 n1 c1, .slice A2 n2 c2].toArray, .agg (glv g).toArray, .int .i64 per, .int .i64 most] w (.bool true) := by
  refine fn_pure (F := F) Try.func10 rfl Try.ntmps10 rfl hF ?_
  refine t_seq ?_
  refine b0 ?_
  refine om1 rfl (new_boxN rfl) rfl rfl trivial (fun p4 => ?_)
  refine om1 rfl (new_boxN rfl) rfl rfl trivial (fun p5 => ?_)
  refine o1 rfl (det_assign rfl) rfl rfl trivial ?_
  refine be rfl ?_
  refine k_then ?_
  refine t_seq ?_
  refine t_seq ?_
  refine bD mixed ?_
  refine r_segF 6 6 [] [(1, Go.Eng.Told F (fun v F1 => ∃ A1 cap1, v = .agg [.slice A1 (Sv.draftE ss ls).length cap1, .int .i64 (sumL (Sv.draftE ss ls))].toArray ∧ (Sv.draftE ss ls).length ≤ cap1 ∧ GlK F1 (⟨A1, (Sv.draftE ss ls).length, cap1, (Sv.draftE ss ls), sumL (Sv.draftE ss ls)⟩ : Gl)))] [0, 1, 2, 3, 4, 5] (by kernel_rfl) ?_
  refine s1 rfl (det_loadN tN64 rfl rfl (.tail _ (.head _)) rfl) rfl rfl trivial rfl ?_
  refine sM [] need0 rfl (fun F2 hF2 hN => mem_call hF2 hb33 rfl rfl (fun w1 hs => (draft30_ok hs.know (h1.mono hF2) (h2.mono hF2)).any)) rfl rfl trivial rfl (fun v18 hv18 => ?_)
  obtain ⟨_, B, capb, rfl, -, -⟩ := hv18
  refine s1 rfl (det_loadN tN30 rfl rfl (.head _) rfl) rfl rfl trivial rfl ?_
  refine s1 rfl (det_call hb34 rfl rfl (fun w1 hs => few_ok hs.know hcap)) rfl rfl trivial rfl ?_
  refine s1 rfl (det_build rfl (fun w => bld66_0_1 _ _ _ _ _ _ _ _ w)) rfl rfl trivial rfl ?_
  refine s1 rfl (det_move rfl) rfl rfl trivial rfl ?_
  refine sg_nil ?_
  rintro F_1_6 hF_1_6 hN_1_6 ⟨hR18, -⟩
  obtain ⟨Bq, capq, hgv, hcb, hEb⟩ := hR18
  cases hgv
  have hFw : GlK F_1_6 (⟨g.A, min g.n 130, g.cap, g.es.take 130, g.cyc⟩ : Gl) := few_k (EntK.mono hE (hF_1_6))
  refine be rfl ?_
  refine k_then ?_
  refine t_block ?_
  refine t_whileM (σ := Nat) (fun s => [(22, .int .i64 s)]) (fun _ => _) (fun s => 2 - s) (fun s => s ≤ 2) 0 (env0 := [(2, _), (3, _), (21, _)]) (Nat.zero_le _) ⟨rfl, trivial⟩ ⟨rfl, rfl, rfl, trivial⟩ (.refl _) ?_
  intro s hsl
  refine t_seq ?_
  refine b0 ?_
  refine o1 rfl (det_lss rfl rfl) rfl rfl trivial ?_
  refine be rfl ?_
  refine k_then ?_
  refine t_seq ?_
  refine t_condP decide_eq_true_iff rfl (fun hb => ?_) (fun hb => ?_)
  ·
    have hlt2 : s < 2 := by omega
    obtain ⟨y, hcut, hy⟩ : ∃ y : Gl, cutV ((s : Int).toNat * 2) 2 (glv (⟨B, (Sv.draftE ss ls).length, capb, (Sv.draftE ss ls), sumL (Sv.draftE ss ls)⟩ : Gl) ++ glv (⟨g.A, min g.n 130, g.cap, g.es.take 130, g.cyc⟩ : Gl)) = some (glv y) ∧ GlK F_1_6 y := by
      have h6 : s = 0 ∨ s = 1 := by omega
      rcases h6 with rfl | rfl
      · exact ⟨(⟨B, (Sv.draftE ss ls).length, capb, (Sv.draftE ss ls), sumL (Sv.draftE ss ls)⟩ : Gl), rfl, hEb⟩
      · exact ⟨(⟨g.A, min g.n 130, g.cap, g.es.take 130, g.cyc⟩ : Gl), rfl, hFw⟩
    refine t_skip ?_
    refine k_then ?_
    refine t_seq ?_
    refine t_block ?_
    refine t_seq ?_
    refine b0 ?_
    refine o1 rfl (det_indexN ar66 tN30 rfl rfl (by omega) hcut) rfl rfl trivial ?_
    refine om1 rfl (new_alloc z30) rfl rfl trivial (fun p10 => ?_)
    refine stN nofun rfl tN30 rfl rfl rfl .head rfl trivial rfl rfl ?_
    refine be rfl ?_
    refine k_then ?_
    refine t_seq ?_
    refine b0 ?_
    have hu1 := u64w per
    have hu2 := u64w most
    refine o1 rfl (det_move rfl) rfl rfl trivial ?_
    refine o1 rfl (det_move rfl) rfl rfl trivial ?_
    refine o1 rfl (det_build rfl (fun w => bld59_0_1 _ _ w)) rfl rfl trivial ?_
    refine o1 rfl (det_move rfl) rfl rfl trivial ?_
    first | (refine o1 rfl (det_convW Try.underlying3 Try.underlying48 rfl ?_) rfl rfl trivial ?_; (· exact IntWalk.u64_in _ (by omega))) | refine o1 rfl (det_conv Try.underlying3 Try.underlying48 rfl) rfl rfl trivial ?_
    first | (refine o1 rfl (det_remP rfl rfl ?_) rfl rfl trivial ?_; (· omega)) | (refine o1 rfl (det_rem rfl rfl ?_) rfl rfl trivial ?_; (· (first | decide | omega)))
    first | (refine o1 rfl (det_convW Try.underlying48 Try.underlying3 rfl ?_) rfl rfl trivial ?_; (· exact IntWalk.i64_in _ (by omega))) | refine o1 rfl (det_conv Try.underlying48 Try.underlying3 rfl) rfl rfl trivial ?_
    first | (refine o1 rfl (det_addI rfl rfl ?_) rfl rfl trivial ?_; (· omega)) | refine o1 rfl (det_add rfl rfl) rfl rfl trivial ?_
    refine o1 rfl (det_move rfl) rfl rfl trivial ?_
    first | (refine o1 rfl (det_convW Try.underlying3 Try.underlying48 rfl ?_) rfl rfl trivial ?_; (· exact IntWalk.u64_in _ (by omega))) | refine o1 rfl (det_conv Try.underlying3 Try.underlying48 rfl) rfl rfl trivial ?_
    first | (refine o1 rfl (det_remP rfl rfl ?_) rfl rfl trivial ?_; (· omega)) | (refine o1 rfl (det_rem rfl rfl ?_) rfl rfl trivial ?_; (· (first | decide | omega)))
    first | (refine o1 rfl (det_convW Try.underlying48 Try.underlying3 rfl ?_) rfl rfl trivial ?_; (· exact IntWalk.i64_in _ (by omega))) | refine o1 rfl (det_conv Try.underlying48 Try.underlying3 rfl) rfl rfl trivial ?_
    first | (refine o1 rfl (det_addI rfl rfl ?_) rfl rfl trivial ?_; (· omega)) | refine o1 rfl (det_add rfl rfl) rfl rfl trivial ?_
    refine o1 rfl (det_build rfl (fun w => bld59_0_1 _ _ w)) rfl rfl trivial ?_
    refine o1 rfl (det_build rfl (fun w => bld59_0_1 _ _ w)) rfl rfl trivial ?_
    refine o1 rfl (det_build rfl (fun w => bld67_0_1_2 _ _ _ _ _ _ w)) rfl rfl trivial ?_
    refine o1 rfl (det_move rfl) rfl rfl trivial ?_
    refine be rfl ?_
    refine k_then ?_
    refine t_block ?_
    refine t_whileM (σ := Nat) (fun q => [(41, .int .i64 q)]) (fun _ => _) (fun q => 3 - q) (fun q => q ≤ 3) 0 (env0 := [(2, _), (3, _), (10, _), (21, _), (22, _), (40, _)]) (Nat.zero_le _) ⟨rfl, trivial⟩ ⟨rfl, rfl, rfl, rfl, rfl, rfl, trivial⟩ (.refl _) ?_
    intro q hql
    refine t_seq ?_
    refine b0 ?_
    refine o1 rfl (det_lss rfl rfl) rfl rfl trivial ?_
    refine be rfl ?_
    refine k_then ?_
    refine t_seq ?_
    refine t_condP decide_eq_true_iff rfl (fun hb => ?_) (fun hb => ?_)
    ·
      obtain ⟨a, b, hcut2⟩ : ∃ a b : Int, cutV ((q : Int).toNat * 2) 2 [Value.int .i64 per, .int .i64 most, .int .i64 (1 + IntKind.u64.wrap per % 4), .int .i64 (84 + IntKind.u64.wrap most % 100), .int .i64 1, .int .i64 84] = some [.int .i64 a, .int .i64 b] := by
        have h6 : q = 0 ∨ q = 1 ∨ q = 2 := by omega
        rcases h6 with rfl | rfl | rfl <;> exact ⟨_, _, rfl⟩
      refine t_skip ?_
      refine k_then ?_
      refine t_seq ?_
      refine t_block ?_
      refine t_seq ?_
      refine b0 ?_
      refine o1 rfl (det_indexN ar67 tN59 rfl rfl (by omega) hcut2) rfl rfl trivial ?_
      refine om1 rfl (new_alloc z59) rfl rfl trivial (fun p12 => ?_)
      refine stN nofun rfl tN59 rfl rfl rfl .head rfl trivial rfl rfl ?_
      refine be rfl ?_
      refine k_then ?_
      refine t_seq ?_
      refine b0 ?_
      refine o1 rfl (det_loadN tN30 rfl rfl (.tail _ (.head _)) rfl) rfl rfl trivial ?_
      first | (refine o1 rfl (det_indexAddrA ar59 rfl rfl ?_) rfl rfl trivial ?_; (· (first | decide | omega)))
      refine o1 rfl (det_load1 t1_3 rfl rfl (.head _) rfl) rfl rfl trivial ?_
      first | (refine o1 rfl (det_indexAddrA ar59 rfl rfl ?_) rfl rfl trivial ?_; (· (first | decide | omega)))
      refine o1 rfl (det_load1 t1_3 rfl rfl (.head _) rfl) rfl rfl trivial ?_
      refine o1 rfl (det_call hb40 rfl rfl (fun w1 hs => Of_ok hs.know hy)) rfl rfl trivial ?_
      refine o1 rfl (det_move rfl) rfl rfl trivial ?_
      refine o1 rfl (det_extract rfl rfl) rfl rfl trivial ?_
      refine o1 rfl (det_extract rfl rfl) rfl rfl trivial ?_
      refine om1 rfl (new_alloc z75) rfl rfl trivial (fun p13 => ?_)
      refine stN nofun rfl tN75 rfl rfl rfl .head rfl trivial rfl rfl ?_
      refine o1 rfl (det_assign rfl) rfl rfl trivial ?_
      refine be rfl ?_
      refine k_then ?_
      refine t_seq ?_
      refine b0 ?_
      refine o1 rfl (det_loadN tN30 rfl rfl (.tail _ (.tail _ (.head _))) rfl) rfl rfl trivial ?_
      first | (refine o1 rfl (det_indexAddrA ar59 rfl rfl ?_) rfl rfl trivial ?_; (· (first | decide | omega)))
      refine o1 rfl (det_load1 t1_3 rfl rfl (.tail _ (.head _)) rfl) rfl rfl trivial ?_
      first | (refine o1 rfl (det_indexAddrA ar59 rfl rfl ?_) rfl rfl trivial ?_; (· (first | decide | omega)))
      refine o1 rfl (det_load1 t1_3 rfl rfl (.tail _ (.head _)) rfl) rfl rfl trivial ?_
      refine o1 rfl (det_call hb41 rfl rfl (fun w1 hs => rOf_at hs.know hy)) rfl rfl trivial ?_
      refine o1 rfl (det_move rfl) rfl rfl trivial ?_
      refine o1 rfl (det_extract rfl rfl) rfl rfl trivial ?_
      refine o1 rfl (det_extract rfl rfl) rfl rfl trivial ?_
      refine om1 rfl (new_alloc z75) rfl rfl trivial (fun p15 => ?_)
      refine stN nofun rfl tN75 rfl rfl rfl .head rfl trivial rfl rfl ?_
      refine o1 rfl (det_assign rfl) rfl rfl trivial ?_
      refine be rfl ?_
      refine k_then ?_
      refine t_seq ?_
      refine b0 ?_
      refine o1 rfl (det_loadN tN75 rfl rfl (.tail _ (.head _)) rfl) rfl rfl trivial ?_
      refine o1 rfl (det_loadN tN75 rfl rfl (.head _) rfl) rfl rfl trivial ?_
      refine o1 rfl (det_neqS rfl rfl eqg75 (fun w => eq75 _ _ _ _ w)) rfl rfl trivial ?_
      refine o2P Iff.rfl rfl (det_move rfl) rfl rfl trivial (fun hb => ?_) (fun hb => ?_)
      · exfalso; first | exact hb rfl | (simp at hb; done)
      refine o1 rfl (det_move rfl) rfl rfl ⟨_, rfl, rfl⟩ ?_
      refine o1 rfl (det_move rfl) rfl rfl ⟨_, rfl, rfl⟩ ?_
      refine o1 rfl (det_neq rfl rfl) rfl rfl ⟨_, rfl, rfl⟩ ?_
      refine o1 rfl (det_pickF rfl rfl) rfl rfl trivial ?_
      refine be rfl ?_
      refine k_then ?_
      refine t_condP bne_iff_ne rfl (fun hb => ?_) (fun hb => ?_)
      · exfalso; first | exact hb rfl | (simp at hb; done)
      refine t_skip ?_
      refine k_blk ?_
      refine k_then ?_
      refine b0 ?_
      first | (refine o1 rfl (det_addI rfl rfl ?_) rfl rfl trivial ?_; (· omega)) | refine o1 rfl (det_add rfl rfl) rfl rfl trivial ?_
      refine o1 rfl (det_move rfl) rfl rfl trivial ?_
      refine be rfl ?_
      refine k_then ?_
      refine loop_back (q + 1) (by omega) (by omega) ⟨rfl, rfl, rfl, rfl, rfl, rfl, rfl, trivial⟩ (.cons _ (.cons _ (.cons _ (.refl _))))
    ·
      skip
      refine t_exit ?_
      refine k_thenE ?_
      refine k_thenE ?_
      refine k_blkE ?_
      refine k_blk ?_
      refine k_then ?_
      refine b0 ?_
      first | (refine o1 rfl (det_addI rfl rfl ?_) rfl rfl trivial ?_; (· omega)) | refine o1 rfl (det_add rfl rfl) rfl rfl trivial ?_
      refine o1 rfl (det_move rfl) rfl rfl trivial ?_
      refine be rfl ?_
      refine k_then ?_
      refine loop_back (s + 1) (by omega) (by omega) ⟨rfl, rfl, rfl, rfl, trivial⟩ (.cons _ (.refl _))
  ·
    skip
    refine t_exit ?_
    refine k_thenE ?_
    refine k_thenE ?_
    refine k_blkE ?_
    refine k_then ?_
    refine t_seq ?_
    refine b0 ?_
    refine o1 rfl (det_call hb37 rfl rfl (fun w1 hs => works30_ok hs.know)) rfl rfl trivial ?_
    refine o1 rfl (det_assign rfl) rfl rfl trivial ?_
    refine be rfl ?_
    refine k_then ?_
    refine t_ret ?_
    refine ret_tmp rfl rfl rfl (fun w1 hs => ?_)
    exact ⟨rfl, hs.keep⟩

end Go.Proofs.Sw
