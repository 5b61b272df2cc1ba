/-
  Walks through layer 39 and its reference.
-/
import Derived.Test.YtlnnoghneciocaaSqL0
namespace Go.Proofs.Sq
open Go Go.Eng Go.Sq
set_option maxRecDepth 4000

/-- slices.Equal of a route with itself. -/
theorem requal_ok {w : World} {F : Know} (hF : ∀ a v, F a = some v → w.cell? a = some v) {B : Option Addr} {n d : Nat} {js : List Int} (hI : IntsK F .i64 B n js) (hnb : n ≤ 9223372036854775807) : Pure Try.prog 16 [.slice B n d, .slice B n d] w (.bool true) := by
  refine fn_pure (F := F) Try.func16 rfl Try.ntmps16 rfl hF ?_
  refine t_seq ?_
  refine b0 ?_
  refine o1 rfl (det_assign rfl) rfl rfl trivial ?_
  refine be rfl ?_
  refine k_then ?_
  refine t_seq ?_
  refine t_seq ?_
  refine b0 ?_
  refine o1 rfl (det_move rfl) rfl rfl trivial ?_
  refine o1 rfl (det_lenS sl38 rfl) rfl rfl trivial ?_
  refine o1 rfl (det_move rfl) rfl rfl trivial ?_
  refine o1 rfl (det_lenS sl38 rfl) rfl rfl trivial ?_
  refine o1 rfl (det_neq rfl rfl) rfl rfl trivial ?_
  refine be rfl ?_
  refine k_then ?_
  refine t_condP bne_iff_ne rfl (fun hb => ?_) (fun hb => ?_)
  · exfalso; exact hb rfl
  refine t_skip ?_
  refine k_then ?_
  refine t_seq ?_
  refine t_seq ?_
  refine b0 ?_
  refine o1 rfl (det_move rfl) rfl rfl trivial ?_
  refine o1 rfl (det_lenS sl38 rfl) rfl rfl trivial ?_
  refine o1 rfl (det_move rfl) rfl rfl trivial ?_
  refine be rfl ?_
  refine k_then ?_
  refine t_block ?_
  refine t_whileM (σ := Nat) (fun s => [(13, .int .i64 s)]) (fun _ => _) (fun s => n - s) (fun s => s ≤ n) 0 (env0 := [(0, _), (1, _), (12, _)]) (Nat.zero_le _) ⟨rfl, trivial⟩ ⟨rfl, rfl, rfl, trivial⟩ (.refl _) ?_
  intro s hsl
  have hnl := hI.len
  refine t_seq ?_
  refine b0 ?_
  refine o1 rfl (det_lss rfl rfl) rfl rfl trivial ?_
  refine be rfl ?_
  refine k_then ?_
  refine t_seq ?_
  refine t_condP decide_eq_true_iff rfl (fun hb => ?_) (fun hb => ?_)
  ·
    have hlt : s < js.length := by omega
    obtain ⟨B, rfl⟩ := hI.some hlt
    refine t_skip ?_
    refine k_then ?_
    refine t_seq ?_
    refine t_block ?_
    refine t_seq ?_
    refine b0 ?_
    refine o1 rfl (det_move rfl) rfl rfl trivial ?_
    refine o1 rfl (det_assign rfl) rfl rfl trivial ?_
    refine be rfl ?_
    refine k_then ?_
    refine t_seq ?_
    refine bD mixed ?_
    refine r_seg 9 9 [] [0, 1, 2, 3, 4, 5, 6, 7, 8] (by kernel_rfl) ?_
    refine s1 rfl (det_move rfl) rfl rfl trivial rfl ?_
    refine s1 rfl (det_move rfl) rfl rfl trivial rfl ?_
    first | (refine s1 rfl (det_indexAddr sl38 rfl rfl ?_) rfl rfl trivial rfl ?_; (· (first | decide | omega)))
    refine s1 rfl (det_loadK t1_3 rfl (hI.cell (i := (s : Int)) (by omega) (by simpa using hlt))) rfl rfl trivial rfl ?_
    refine s1 rfl (det_move rfl) rfl rfl trivial rfl ?_
    refine s1 rfl (det_move rfl) rfl rfl trivial rfl ?_
    first | (refine s1 rfl (det_indexAddr sl38 rfl rfl ?_) rfl rfl trivial rfl ?_; (· (first | decide | omega)))
    refine s1 rfl (det_loadK t1_3 rfl (hI.cell (i := (s : Int)) (by omega) (by simpa using hlt))) rfl rfl trivial rfl ?_
    refine s1 rfl (det_neq rfl rfl) rfl rfl trivial rfl ?_
    refine sg_nil ?_
    refine be rfl ?_
    refine k_then ?_
    refine t_condP bne_iff_ne rfl (fun hb => ?_) (fun hb => ?_)
    · exfalso; exact hb rfl
    refine t_skip ?_
    refine k_blk ?_
    refine k_then ?_
    refine b0 ?_
    first | (refine o1 rfl (det_addI rfl rfl ?_) rfl rfl trivial ?_; (· omega)) | refine o1 rfl (det_add rfl rfl) rfl rfl trivial ?_
    refine o1 rfl (det_move rfl) rfl rfl trivial ?_
    refine be rfl ?_
    refine k_then ?_
    refine loop_back (s + 1) (by omega) (by omega) ⟨rfl, rfl, rfl, rfl, trivial⟩ (.refl _)
  ·
    skip
    refine t_exit ?_
    refine k_thenE ?_
    refine k_thenE ?_
    refine k_blkE ?_
    refine k_then ?_
    refine t_seq ?_
    refine b0 ?_
    refine o1 rfl (det_assign rfl) rfl rfl trivial ?_
    refine be rfl ?_
    refine k_then ?_
    refine t_ret ?_
    refine ret_tmp rfl rfl rfl (fun w1 hs => ?_)
    exact ⟨rfl, hs.keep⟩

/-- SeqCopies. -/
theorem copies_law {w : World} {F : Know} (hF : ∀ a v, F a = some v → w.cell? a = some v) {A : Option Addr} {n c : Nat} {rs : List Rt} (hP : TK2 F A n rs) (hnc : n ≤ c) (hRt : ∀ r ∈ rs, ∃ js, IntsK F .i64 r.B r.n js ∧ r.n ≤ 9223372036854775807) {x : It} {st nu : Int} (hst : 0 ≤ st ∧ st ≤ 65535) (hnu : 0 ≤ nu ∧ nu ≤ 65535) : Pure Try.prog 4 [.agg (itv x).toArray, .slice A n c, .int .u16 st, .int .u16 nu] w (.bool true) := by
  refine fn_pure (F := F) Try.func4 rfl Try.ntmps4 rfl hF ?_
  refine t_seq ?_
  refine b0 ?_
  refine om1 rfl (new_boxN rfl) rfl rfl trivial (fun p4 => ?_)
  refine o1 rfl (det_assign rfl) rfl rfl trivial ?_
  refine be rfl ?_
  refine k_then ?_
  refine t_seq ?_
  refine t_seq ?_
  refine b0 ?_
  refine o1 rfl (det_call hb9 rfl rfl (fun w1 hs => works_ok hs.know)) rfl rfl trivial ?_
  refine o1 rfl (det_not rfl) rfl rfl trivial ?_
  refine be rfl ?_
  refine k_then ?_
  refine t_condP not_iff_false rfl (fun hb => ?_) (fun hb => ?_)
  · exfalso; simp at hb
  refine t_skip ?_
  refine k_then ?_
  refine t_seq ?_
  refine b0 ?_
  refine o1 rfl (det_move rfl) rfl rfl trivial ?_
  refine o1 rfl (det_move rfl) rfl rfl trivial ?_
  refine o1 rfl (det_lenS sl32 rfl) rfl rfl trivial ?_
  refine o1 rfl (det_min2 rfl rfl) rfl rfl trivial ?_
  first | (refine o1 rfl (det_sliceTo sl32 rfl rfl ?_) rfl rfl trivial ?_; (· omega))
  refine o1 rfl (det_assign rfl) rfl rfl trivial ?_
  refine be rfl ?_
  refine k_then ?_
  refine t_seq ?_
  refine b0 ?_
  obtain ⟨m, hm⟩ : ∃ m, (min (n : Int) 4).toNat = m := ⟨_, rfl⟩
  have hmn : m ≤ n := by omega
  have hm4 : m ≤ 4 := by omega
  rw [hm]
  obtain ⟨qs, hqs⟩ : ∃ qs, rs.take m = qs := ⟨_, rfl⟩
  replace hP : TK2 F A m qs := by rw [← hqs]; exact hP.take m hmn
  replace hRt : ∀ r ∈ qs, ∃ js, IntsK F .i64 r.B r.n js ∧ r.n ≤ 9223372036854775807 := fun r hr => hRt r (List.mem_of_mem_take (by rw [hqs]; exact hr))
  have hnb : m ≤ 65536 := by omega
  clear hqs hm
  refine o1 rfl (det_loadN tN31 rfl rfl (.head _) rfl) rfl rfl trivial ?_
  refine om1 rfl (new_alloc z31) rfl rfl trivial (fun p9 => ?_)
  refine stN nofun rfl tN31 rfl rfl rfl .head rfl trivial rfl rfl ?_
  refine be rfl ?_
  refine k_then ?_
  refine t_seq ?_
  refine b0 ?_
  refine o1 rfl (det_move rfl) rfl rfl trivial ?_
  first | (refine o1 rfl (det_remP rfl rfl ?_) rfl rfl trivial ?_; (· omega)) | (refine o1 rfl (det_rem rfl rfl ?_) rfl rfl trivial ?_; (· (first | decide | omega)))
  first | (refine o1 rfl (det_convW Try.underlying22 Try.underlying3 rfl ?_) rfl rfl trivial ?_; (· exact IntWalk.i64_in _ (by omega))) | refine o1 rfl (det_conv Try.underlying22 Try.underlying3 rfl) rfl rfl trivial ?_
  first | (refine o1 rfl (det_addI rfl rfl ?_) rfl rfl trivial ?_; (· omega)) | refine o1 rfl (det_add rfl rfl) rfl rfl trivial ?_
  refine o1 rfl (det_move rfl) rfl rfl trivial ?_
  first | (refine o1 rfl (det_convW Try.underlying22 Try.underlying3 rfl ?_) rfl rfl trivial ?_; (· exact IntWalk.i64_in _ (by omega))) | refine o1 rfl (det_conv Try.underlying22 Try.underlying3 rfl) rfl rfl trivial ?_
  refine o1 rfl (det_fieldAddr fld31_0 rfl) rfl rfl trivial ?_
  refine st1 nofun rfl t1_3 rfl rfl rfl .head rfl trivial rfl ?_
  refine o1 rfl (det_fieldAddr fld31_1 rfl) rfl rfl trivial ?_
  refine st1 nofun rfl t1_3 rfl rfl rfl .head rfl trivial rfl ?_
  refine be rfl ?_
  refine k_then ?_
  refine t_seq ?_
  refine t_seq ?_
  refine b0 ?_
  refine o1 rfl (det_loadN tN31 rfl rfl (.tail _ (.head _)) rfl) rfl rfl trivial ?_
  refine o1 rfl (det_loadN tN31 rfl rfl (.head _) rfl) rfl rfl trivial ?_
  refine o1 rfl (det_build rfl (fun w => bld33_0_1 _ _ _ _ _ _ _ _ _ _ w)) rfl rfl trivial ?_
  refine o1 rfl (det_move rfl) rfl rfl trivial ?_
  refine be rfl ?_
  refine k_then ?_
  refine t_block ?_
  refine t_whileK (σ := Nat) (fun s => [(35, .int .i64 s)]) (fun s => F) (fun _ => _) (fun s => 2 - s) (fun s => s ≤ 2) 0 (env0 := [(1, _), (34, _)]) (Nat.zero_le _) incl_refl ⟨rfl, trivial⟩ ⟨rfl, rfl, trivial⟩ (.refl _) ?_
  intro s hsl
  refine t_seq ?_
  refine b0 ?_
  refine o1 rfl (det_lss rfl rfl) rfl rfl trivial ?_
  refine be rfl ?_
  refine k_then ?_
  refine t_seq ?_
  refine t_condP decide_eq_true_iff rfl (fun hb => ?_) (fun hb => ?_)
  ·
    have hlt : s < 2 := by omega
    obtain ⟨y, hcut⟩ : ∃ y : It, cutV ((s : Int).toNat * 5) 5 (itv x ++ itv ⟨1 + st % 4095, nu, x.cl, x.sz, x.sn⟩) = some (itv y) := by
      rcases Nat.lt_or_ge s 1 with h | h
      · rw [show s = 0 by omega]; exact ⟨x, rfl⟩
      · rw [show s = 1 by omega]; exact ⟨⟨1 + st % 4095, nu, x.cl, x.sz, x.sn⟩, rfl⟩
    refine t_skip ?_
    refine k_then ?_
    refine t_seq ?_
    refine t_block ?_
    refine t_seq ?_
    refine b0 ?_
    refine o1 rfl (det_indexN ar33 tN31 rfl rfl (by omega) hcut) rfl rfl trivial ?_
    refine om1 rfl (new_alloc z31) rfl rfl trivial (fun p11 => ?_)
    refine stN nofun rfl tN31 rfl rfl rfl .head rfl trivial rfl rfl ?_
    refine be rfl ?_
    refine k_then ?_
    refine t_seq ?_
    refine b0 ?_
    refine o1 rfl (det_loadN tN31 rfl rfl (.head _) rfl) rfl rfl trivial ?_
    refine o1 rfl (det_move rfl) rfl rfl trivial ?_
    refine oF nofun rfl hb15 rfl rfl rfl trivial (fun w1 hs => (copies_ok hs.know hP hnb (x := y)).any) (fun v1 F1 hF1 hN1 ⟨A1, n1, c1, hv, hn1, hm1, hR1⟩ => ?_)
    subst hv
    have hl1 := hR1.len
    replace hP := hP.mono hF1
    have hml := hP.len
    refine o1 rfl (det_move rfl) rfl rfl trivial ?_
    refine o1 rfl (det_extract rfl rfl) rfl rfl trivial ?_
    refine o1 rfl (det_extract rfl rfl) rfl rfl trivial ?_
    refine o1 rfl (det_assign rfl) rfl rfl trivial ?_
    refine o1 rfl (det_assign rfl) rfl rfl trivial ?_
    refine be rfl ?_
    refine k_then ?_
    refine t_seq ?_
    refine t_seq ?_
    refine t_merge (env0 := [(1, _), (11, _), (12, _), (13, _), (34, _), (35, _)]) ⟨rfl, rfl, rfl, rfl, rfl, rfl, trivial⟩ 67 (.bool (decide (okCp y qs = false))) ?_ (fun hK => ?_)
    ·
      refine k_then ?_
      refine t_condP decide_eq_true_iff rfl (fun hb => ?_) (fun hb => ?_)
      ·
        have hno : okCp y qs = false := by simpa using hb
        have hn0 : n1 = 0 := by rw [hl1, outCp, hno]; rfl
        refine t_seq ?_
        refine t_seq ?_
        refine t_merge (env0 := [(1, _), (11, _), (12, _), (13, _), (34, _), (35, _)]) ⟨rfl, rfl, rfl, rfl, rfl, rfl, trivial⟩ 74 (.bool false) ?_ (fun hK => ?_)
        ·
          refine k_then ?_
          refine t_condF rfl ?_
          refine t_skip ?_
          refine k_then ?_
          refine t_exit ?_
          refine k_thenE ?_
          refine k_blkE ?_
          refine k_then ?_
          refine b0 ?_
          first | (refine o1 rfl (det_addI rfl rfl ?_) rfl rfl trivial ?_; (· omega)) | refine o1 rfl (det_add rfl rfl) rfl rfl trivial ?_
          refine o1 rfl (det_move rfl) rfl rfl trivial ?_
          refine be rfl ?_
          refine k_then ?_
          refine loop_backK (s + 1) (by omega) (by omega) hF1 ⟨rfl, rfl, rfl, trivial⟩ (.cons _ (.refl _))
        ·
          refine b0 ?_
          refine o1 rfl (det_move rfl) rfl rfl trivial ?_
          refine o1 rfl (det_neq rfl rfl) rfl rfl trivial ?_
          refine o2P bne_iff_ne rfl (det_move rfl) rfl rfl trivial (fun hb => ?_) (fun hb => ?_)
          ·
            refine on rfl rfl rfl ⟨_, rfl, .inl rfl⟩ ?_
            refine on rfl rfl rfl ⟨_, rfl, .inl rfl⟩ ?_
            refine on rfl rfl rfl ⟨_, rfl, .inl rfl⟩ ?_
            refine o1 rfl (det_pickT rfl rfl) rfl rfl trivial ?_
            refine be rfl ?_
            refine tk_drop ?_ (.refl _) hK
            exact ⟨(mb rfl (by grind)), rfl, rfl, rfl, rfl, rfl, rfl, trivial⟩
          ·
            refine o1 rfl (det_move rfl) rfl rfl ⟨_, rfl, rfl⟩ ?_
            refine o1 rfl (det_lenS sl34 rfl) rfl rfl ⟨_, rfl, rfl⟩ ?_
            refine o1 rfl (det_gtr rfl rfl) rfl rfl ⟨_, rfl, rfl⟩ ?_
            refine o1 rfl (det_pickF rfl rfl) rfl rfl trivial ?_
            refine be rfl ?_
            refine tk_drop ?_ (.refl _) hK
            exact ⟨(mb rfl (by grind)), rfl, rfl, rfl, rfl, rfl, rfl, trivial⟩
      ·
        have hok : okCp y qs = true := by simpa using hb
        have hoc : outCp y qs = qs := by rw [outCp, hok]; rfl
        rw [hoc] at hl1 hR1
        refine t_skip ?_
        refine k_then ?_
        refine t_seq ?_
        refine t_seq ?_
        refine t_merge (env0 := [(1, _), (11, _), (12, _), (34, _), (35, _)]) ⟨rfl, rfl, rfl, rfl, rfl, trivial⟩ 83 (.bool false) ?_ (fun hK => ?_)
        ·
          refine k_then ?_
          refine t_condF rfl ?_
          refine t_skip ?_
          refine k_then ?_
          refine t_seq ?_
          refine b0 ?_
          refine o1 rfl (det_move rfl) rfl rfl trivial ?_
          refine o1 rfl (det_lenS sl34 rfl) rfl rfl trivial ?_
          refine o1 rfl (det_move rfl) rfl rfl trivial ?_
          refine be rfl ?_
          refine k_then ?_
          refine t_block ?_
          refine t_whileM (σ := Nat) (fun j => [(86, .int .i64 j)]) (fun _ => _) (fun j => qs.length - j) (fun j => j ≤ qs.length) 0 (env0 := [(1, _), (11, _), (34, _), (35, _), (84, _), (85, _)]) (Nat.zero_le _) ⟨rfl, trivial⟩ ⟨rfl, rfl, rfl, rfl, rfl, rfl, trivial⟩ (.refl _) ?_
          intro j hjl
          refine t_seq ?_
          refine b0 ?_
          refine o1 rfl (det_lss rfl rfl) rfl rfl trivial ?_
          refine be rfl ?_
          refine k_then ?_
          refine t_seq ?_
          refine t_condP decide_eq_true_iff rfl (fun hb => ?_) (fun hb => ?_)
          ·
            have hlt2 : j < qs.length := by omega
            obtain ⟨A1, rfl⟩ := hR1.some hlt2
            obtain ⟨A, rfl⟩ := hP.some hlt2
            obtain ⟨js, hJ, hjn⟩ := hRt qs[j] (List.getElem_mem hlt2)
            refine t_skip ?_
            refine k_then ?_
            refine t_seq ?_
            refine t_block ?_
            refine t_seq ?_
            refine b0 ?_
            refine o1 rfl (det_move rfl) rfl rfl trivial ?_
            first | (refine o1 rfl (det_indexAddr sl34 rfl rfl ?_) rfl rfl trivial ?_; (· (first | decide | omega)))
            refine o1 rfl (det_loadKN tN40 rfl (cpv_len y qs[j]) (hR1.cells (i := (j : Int)) (k := j) (Int.toNat_natCast j) hlt2 (cpv_len _ _))) rfl rfl trivial ?_
            refine om1 rfl (new_alloc z40) rfl rfl trivial (fun p15 => ?_)
            refine o1 rfl (det_assign rfl) rfl rfl trivial ?_
            refine stN nofun rfl tN40 rfl rfl rfl .head rfl trivial rfl rfl ?_
            refine be rfl ?_
            refine k_then ?_
            refine t_seq ?_
            refine bD mixed ?_
            refine r_seg 14 14 [] [0, 1, 2, 3, 4, 5, 6, 7, 8, 9, 10, 11, 12, 13] (by kernel_rfl) ?_
            refine s1 rfl (det_fieldAddr fld40_0 rfl) rfl rfl trivial rfl ?_
            refine s1 rfl (det_loadN tN31 rfl rfl (.head _) rfl) rfl rfl trivial rfl ?_
            refine s1 rfl (det_loadN tN31 rfl rfl (.tail _ (.head _)) rfl) rfl rfl trivial rfl ?_
            refine s1 rfl (det_neqS rfl rfl eqg31 (fun w => eq31 _ _ _ _ _ _ _ _ _ _ w)) rfl rfl trivial rfl ?_
            refine s2P Iff.rfl rfl (det_move rfl) rfl rfl trivial rfl (fun hb => ?_) (fun hb => ?_)
            · exfalso; simp at hb
            refine s1 rfl (det_fieldAddr fld40_1 rfl) rfl rfl ⟨_, rfl, rfl⟩ rfl ?_
            refine s1 rfl (det_load1 t1_38 rfl rfl (.head _) rfl) rfl rfl ⟨_, rfl, rfl⟩ rfl ?_
            refine s1 rfl (det_move rfl) rfl rfl ⟨_, rfl, rfl⟩ rfl ?_
            refine s1 rfl (det_move rfl) rfl rfl ⟨_, rfl, rfl⟩ rfl ?_
            first | (refine s1 rfl (det_indexAddr sl32 rfl rfl ?_) rfl rfl ⟨_, rfl, rfl⟩ rfl ?_; (· (first | decide | omega)))
            refine s1 rfl (det_loadK t1_38 rfl (hP.cell1 (i := (j : Int)) (k := j) (u := rtV qs[j]) (Int.toNat_natCast j) hlt2 rfl)) rfl rfl ⟨_, rfl, rfl⟩ rfl ?_
            refine s1 rfl (det_call hb16 rfl rfl (fun w1 hs => requal_ok hs.know (hJ.mono hF1) hjn)) rfl rfl ⟨_, rfl, rfl⟩ rfl ?_
            refine s1 rfl (det_not rfl) rfl rfl ⟨_, rfl, rfl⟩ rfl ?_
            refine s1 rfl (det_pickF rfl rfl) rfl rfl trivial rfl ?_
            refine sg_nil ?_
            refine be rfl ?_
            refine k_then ?_
            refine t_condP not_iff_false rfl (fun hb => ?_) (fun hb => ?_)
            · exfalso; simp at hb
            refine t_skip ?_
            refine k_blk ?_
            refine k_then ?_
            refine b0 ?_
            first | (refine o1 rfl (det_addI rfl rfl ?_) rfl rfl trivial ?_; (· omega)) | refine o1 rfl (det_add rfl rfl) rfl rfl trivial ?_
            refine o1 rfl (det_move rfl) rfl rfl trivial ?_
            refine be rfl ?_
            refine k_then ?_
            refine loop_back (j + 1) (by omega) (by omega) ⟨rfl, rfl, rfl, rfl, rfl, rfl, rfl, trivial⟩ (.cons _ (.refl _))
          ·
            skip
            refine t_exit ?_
            refine k_thenE ?_
            refine k_thenE ?_
            refine k_blkE ?_
            refine k_blk ?_
            refine k_then ?_
            refine b0 ?_
            first | (refine o1 rfl (det_addI rfl rfl ?_) rfl rfl trivial ?_; (· omega)) | refine o1 rfl (det_add rfl rfl) rfl rfl trivial ?_
            refine o1 rfl (det_move rfl) rfl rfl trivial ?_
            refine be rfl ?_
            refine k_then ?_
            refine loop_backK (s + 1) (by omega) (by omega) hF1 ⟨rfl, rfl, rfl, trivial⟩ (.cons _ (.refl _))
        ·
          refine b0 ?_
          refine o1 rfl (det_move rfl) rfl rfl trivial ?_
          refine o1 rfl (det_neq rfl rfl) rfl rfl trivial ?_
          refine o2P bne_iff_ne rfl (det_move rfl) rfl rfl trivial (fun hb => ?_) (fun hb => ?_)
          ·
            refine on rfl rfl rfl ⟨_, rfl, .inl rfl⟩ ?_
            refine on rfl rfl rfl ⟨_, rfl, .inl rfl⟩ ?_
            refine on rfl rfl rfl ⟨_, rfl, .inl rfl⟩ ?_
            refine on rfl rfl rfl ⟨_, rfl, .inl rfl⟩ ?_
            refine on rfl rfl rfl ⟨_, rfl, .inl rfl⟩ ?_
            refine o1 rfl (det_pickT rfl rfl) rfl rfl trivial ?_
            refine be rfl ?_
            refine tk_drop ?_ (.refl _) hK
            exact ⟨(mb rfl (by grind)), rfl, rfl, rfl, rfl, rfl, trivial⟩
          ·
            refine o1 rfl (det_move rfl) rfl rfl ⟨_, rfl, rfl⟩ ?_
            refine o1 rfl (det_lenS sl34 rfl) rfl rfl ⟨_, rfl, rfl⟩ ?_
            refine o1 rfl (det_move rfl) rfl rfl ⟨_, rfl, rfl⟩ ?_
            refine o1 rfl (det_lenS sl32 rfl) rfl rfl ⟨_, rfl, rfl⟩ ?_
            refine o1 rfl (det_neq rfl rfl) rfl rfl ⟨_, rfl, rfl⟩ ?_
            refine o1 rfl (det_pickF rfl rfl) rfl rfl trivial ?_
            refine be rfl ?_
            refine tk_drop ?_ (.refl _) hK
            exact ⟨(mb rfl (by grind)), rfl, rfl, rfl, rfl, rfl, trivial⟩
    ·
      refine b0 ?_
      refine o1 rfl (det_fieldAddr fld31_0 rfl) rfl rfl trivial ?_
      refine o1 rfl (det_load1 t1_3 rfl rfl (.head _) rfl) rfl rfl trivial ?_
      refine o1 rfl (det_lss rfl rfl) rfl rfl trivial ?_
      refine o2P decide_eq_true_iff rfl (det_move rfl) rfl rfl trivial (fun hb => ?_) (fun hb => ?_)
      ·
        refine on rfl rfl rfl ⟨_, rfl, .inl rfl⟩ ?_
        refine on rfl rfl rfl ⟨_, rfl, .inl rfl⟩ ?_
        refine on rfl rfl rfl ⟨_, rfl, .inl rfl⟩ ?_
        refine o1 rfl (det_pickT rfl rfl) rfl rfl trivial ?_
        refine o1 rfl (det_move rfl) rfl rfl trivial ?_
        refine on rfl rfl rfl ⟨_, rfl, .inl rfl⟩ ?_
        refine on rfl rfl rfl ⟨_, rfl, .inl rfl⟩ ?_
        refine on rfl rfl rfl ⟨_, rfl, .inl rfl⟩ ?_
        refine on rfl rfl rfl ⟨_, rfl, .inl rfl⟩ ?_
        refine o1 rfl (det_pickT rfl rfl) rfl rfl trivial ?_
        refine o1 rfl (det_move rfl) rfl rfl trivial ?_
        refine on rfl rfl rfl ⟨_, rfl, .inl rfl⟩ ?_
        refine on rfl rfl rfl ⟨_, rfl, .inl rfl⟩ ?_
        refine on rfl rfl rfl ⟨_, rfl, .inl rfl⟩ ?_
        refine o1 rfl (det_pickT rfl rfl) rfl rfl trivial ?_
        refine o1 rfl (det_move rfl) rfl rfl trivial ?_
        refine on rfl rfl rfl ⟨_, rfl, .inl rfl⟩ ?_
        refine on rfl rfl rfl ⟨_, rfl, .inl rfl⟩ ?_
        refine on rfl rfl rfl ⟨_, rfl, .inl rfl⟩ ?_
        refine o1 rfl (det_pickT rfl rfl) rfl rfl trivial ?_
        refine be rfl ?_
        refine tk_drop ?_ (.refl _) hK
        exact ⟨(mb rfl (by grind [okCp, okN])), rfl, rfl, rfl, rfl, rfl, rfl, trivial⟩
      ·
        refine o1 rfl (det_fieldAddr fld31_0 rfl) rfl rfl ⟨_, rfl, rfl⟩ ?_
        refine o1 rfl (det_load1 t1_3 rfl rfl (.head _) rfl) rfl rfl ⟨_, rfl, rfl⟩ ?_
        refine o1 rfl (det_gtr rfl rfl) rfl rfl ⟨_, rfl, rfl⟩ ?_
        refine o1 rfl (det_pickF rfl rfl) rfl rfl trivial ?_
        refine o2P decide_eq_true_iff rfl (det_move rfl) rfl rfl trivial (fun hb => ?_) (fun hb => ?_)
        ·
          refine on rfl rfl rfl ⟨_, rfl, .inl rfl⟩ ?_
          refine on rfl rfl rfl ⟨_, rfl, .inl rfl⟩ ?_
          refine on rfl rfl rfl ⟨_, rfl, .inl rfl⟩ ?_
          refine on rfl rfl rfl ⟨_, rfl, .inl rfl⟩ ?_
          refine o1 rfl (det_pickT rfl rfl) rfl rfl trivial ?_
          refine o1 rfl (det_move rfl) rfl rfl trivial ?_
          refine on rfl rfl rfl ⟨_, rfl, .inl rfl⟩ ?_
          refine on rfl rfl rfl ⟨_, rfl, .inl rfl⟩ ?_
          refine on rfl rfl rfl ⟨_, rfl, .inl rfl⟩ ?_
          refine o1 rfl (det_pickT rfl rfl) rfl rfl trivial ?_
          refine o1 rfl (det_move rfl) rfl rfl trivial ?_
          refine on rfl rfl rfl ⟨_, rfl, .inl rfl⟩ ?_
          refine on rfl rfl rfl ⟨_, rfl, .inl rfl⟩ ?_
          refine on rfl rfl rfl ⟨_, rfl, .inl rfl⟩ ?_
          refine o1 rfl (det_pickT rfl rfl) rfl rfl trivial ?_
          refine be rfl ?_
          refine tk_drop ?_ (.refl _) hK
          exact ⟨(mb rfl (by grind [okCp, okN])), rfl, rfl, rfl, rfl, rfl, rfl, trivial⟩
        ·
          refine o1 rfl (det_fieldAddr fld31_1 rfl) rfl rfl ⟨_, rfl, rfl⟩ ?_
          refine o1 rfl (det_load1 t1_3 rfl rfl (.head _) rfl) rfl rfl ⟨_, rfl, rfl⟩ ?_
          refine o1 rfl (det_call hb14 rfl rfl (fun w1 hs => rnum_ok hs.know)) rfl rfl ⟨_, rfl, rfl⟩ ?_
          refine o1 rfl (det_not rfl) rfl rfl ⟨_, rfl, rfl⟩ ?_
          refine o1 rfl (det_pickF rfl rfl) rfl rfl trivial ?_
          refine o2P not_iff_false rfl (det_move rfl) rfl rfl trivial (fun hb => ?_) (fun hb => ?_)
          ·
            refine on rfl rfl rfl ⟨_, rfl, .inl rfl⟩ ?_
            refine on rfl rfl rfl ⟨_, rfl, .inl rfl⟩ ?_
            refine on rfl rfl rfl ⟨_, rfl, .inl rfl⟩ ?_
            refine o1 rfl (det_pickT rfl rfl) rfl rfl trivial ?_
            refine o1 rfl (det_move rfl) rfl rfl trivial ?_
            refine on rfl rfl rfl ⟨_, rfl, .inl rfl⟩ ?_
            refine on rfl rfl rfl ⟨_, rfl, .inl rfl⟩ ?_
            refine on rfl rfl rfl ⟨_, rfl, .inl rfl⟩ ?_
            refine o1 rfl (det_pickT rfl rfl) rfl rfl trivial ?_
            refine be rfl ?_
            refine tk_drop ?_ (.refl _) hK
            exact ⟨(mb rfl (by grind [okCp, okN])), rfl, rfl, rfl, rfl, rfl, rfl, trivial⟩
          ·
            refine o1 rfl (det_move rfl) rfl rfl ⟨_, rfl, rfl⟩ ?_
            refine o1 rfl (det_lenS sl32 rfl) rfl rfl ⟨_, rfl, rfl⟩ ?_
            refine o1 rfl (det_lss rfl rfl) rfl rfl ⟨_, rfl, rfl⟩ ?_
            refine o1 rfl (det_pickF rfl rfl) rfl rfl trivial ?_
            refine o2P decide_eq_true_iff rfl (det_move rfl) rfl rfl trivial (fun hb => ?_) (fun hb => ?_)
            ·
              refine on rfl rfl rfl ⟨_, rfl, .inl rfl⟩ ?_
              refine on rfl rfl rfl ⟨_, rfl, .inl rfl⟩ ?_
              refine on rfl rfl rfl ⟨_, rfl, .inl rfl⟩ ?_
              refine o1 rfl (det_pickT rfl rfl) rfl rfl trivial ?_
              refine be rfl ?_
              refine tk_drop ?_ (.refl _) hK
              exact ⟨(mb rfl (by grind [okCp, okN])), rfl, rfl, rfl, rfl, rfl, rfl, trivial⟩
            ·
              refine o1 rfl (det_move rfl) rfl rfl ⟨_, rfl, rfl⟩ ?_
              refine o1 rfl (det_lenS sl32 rfl) rfl rfl ⟨_, rfl, rfl⟩ ?_
              refine o1 rfl (det_gtr rfl rfl) rfl rfl ⟨_, rfl, rfl⟩ ?_
              refine o1 rfl (det_pickF rfl rfl) rfl rfl trivial ?_
              refine be rfl ?_
              refine tk_drop ?_ (.refl _) hK
              exact ⟨(mb rfl (by grind [okCp, okN])), rfl, rfl, rfl, rfl, rfl, rfl, trivial⟩
  ·
    skip
    refine t_exit ?_
    refine k_thenE ?_
    refine k_thenE ?_
    refine k_blkE ?_
    refine k_then ?_
    refine t_seq ?_
    refine b0 ?_
    refine o1 rfl (det_assign rfl) rfl rfl trivial ?_
    refine be rfl ?_
    refine k_then ?_
    refine t_ret ?_
    refine ret_tmp rfl rfl rfl (fun w1 hs => ?_)
    exact ⟨rfl, hs.keep⟩

end Go.Proofs.Sq
