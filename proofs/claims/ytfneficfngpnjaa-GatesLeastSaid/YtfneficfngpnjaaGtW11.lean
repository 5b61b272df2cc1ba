/-
  Walks through layer 27 and its reference.
-/
import Derived.Test.YtfneficfngpnjaaGtW10
namespace Go.Proofs.Gt
open Go Go.Eng Go.Gt
set_option maxRecDepth 4000

/-- lists. -/
theorem lists_ok {w : World} {F : Know} (hF : ∀ a v, F a = some v → w.cell? a = some v) {A A1 A2 : Option Addr} {n cap n1 c1 n2 c2 : Nat} {es : Ents} {cyc b : Int} {ss ls : List Int} (hE : EntK F A n es) (hcap : n ≤ cap) (hcy : -9223372036854775808 ≤ cyc ∧ cyc ≤ 9223372036854775807) (hb : 0 ≤ b ∧ b ≤ 255) (h1 : IntsK F .u8 A1 n1 ss) (h2 : IntsK F .u8 A2 n2 ls) : CallsF Try.prog 10 [.agg [.slice A1 n1 c1, .slice A2 n2 c2].toArray, .agg [.slice A n cap, .int .i64 cyc].toArray, .int .u8 b] w F (fun v F1 => ∃ (A1 A2 A3 : Option Addr) (n1 n2 n3 c1 c2 c3 : Nat) (es1 es2 es3 : Ents) (y1 y2 y3 : Int), v = .agg [.slice A1 n1 c1, .int .i64 y1, .slice A2 n2 c2, .int .i64 y2, .slice A3 n3 c3, .int .i64 y3].toArray ∧ EntK F1 A1 n1 es1 ∧ EntK F1 A2 n2 es2 ∧ EntK F1 A3 n3 es3 ∧ (-9223372036854775808 ≤ y1 ∧ y1 ≤ 9223372036854775807) ∧ (-9223372036854775808 ≤ y2 ∧ y2 ≤ 9223372036854775807) ∧ (-9223372036854775808 ≤ y3 ∧ y3 ≤ 9223372036854775807)) := by
  have hb1 : bytesL ss := fun i h => h1.rng i h
  have hb2 : bytesL ls := fun i h => h2.rng i h
  refine fn_fresh (F := F) Try.func10 rfl Try.ntmps10 rfl hF ?_
  refine t_seq ?_
  refine b0 ?_
  refine om1 rfl (new_boxN rfl) rfl rfl trivial (fun p3 => ?_)
  refine om1 rfl (new_boxN rfl) rfl rfl trivial (fun p4 => ?_)
  refine om1 rfl (new_alloc z28) rfl rfl trivial (fun p6 => ?_)
  refine be rfl ?_
  refine k_then ?_
  refine t_seq ?_
  refine b0 ?_
  have hdl := draftE_len ss ls
  have hdn : 1 ≤ draftN ss ∧ draftN ss ≤ 16 := by unfold draftN; omega
  have hdr := draft_rng hb1 hb2
  have hsb := sumL_abs (draft_big hb1 hb2) _ (Nat.le_refl _)
  rw [List.take_length] at hsb
  refine o1 rfl (det_loadN tN24 rfl rfl (.tail _ (.tail _ (.head _))) rfl) rfl rfl trivial ?_
  refine oF nofun rfl hb24 rfl rfl rfl trivial (fun w1 hs => (draft_ok hs.know h1 h2).any) (fun v10 F1 hF1 hN1 hR10 => ?_)
  obtain ⟨B1, cap1, rfl, hcp1, hE1⟩ := hR10
  have hnn := hE.len
  have hmn : (min (n : Int) 140).toNat = min 140 n := by omega
  refine om1 rfl (new_alloc z27) rfl rfl trivial (fun p7 => ?_)
  refine stN nofun rfl tN27 rfl rfl rfl .head rfl trivial rfl rfl ?_
  refine be rfl ?_
  refine k_then ?_
  refine t_seq ?_
  refine b0 ?_
  refine o1 rfl (det_fieldAddr fld27_0 rfl) rfl rfl trivial ?_
  refine o1 rfl (det_load1 t1_25 rfl rfl (.tail _ (.tail _ (.head _))) rfl) rfl rfl trivial ?_
  refine o1 rfl (det_fieldAddr fld27_0 rfl) rfl rfl trivial ?_
  refine o1 rfl (det_load1 t1_25 rfl rfl (.tail _ (.tail _ (.head _))) rfl) rfl rfl trivial ?_
  refine o1 rfl (det_lenS sl25 rfl) rfl rfl trivial ?_
  refine o1 rfl (det_min2 rfl rfl) rfl rfl trivial ?_
  first | (refine o1 rfl (det_sliceTo sl25 rfl rfl ?_) rfl rfl trivial ?_; · omega)
  refine o1 rfl (det_fieldAddr fld27_0 rfl) rfl rfl trivial ?_
  refine st1 nofun rfl t1_25 rfl rfl rfl (.tail (.tail .head)) rfl trivial rfl ?_
  refine be rfl ?_
  refine k_then ?_
  refine t_seq ?_
  refine bD mixed ?_
  refine r_seg 9 8 [0, 3, 7] [0, 1, 2, 3, 4, 5, 6, 7] (by kernel_rfl) ?_
  refine sm1 rfl (new_buildSlice rfl (fun w => bsl25_0_ w)) rfl rfl trivial rfl (fun p19 => ?_)
  refine s1 rfl (det_fieldAddr fld27_0 rfl) rfl rfl trivial rfl ?_
  refine s1 rfl (det_load1 t1_25 rfl rfl (.head _) rfl) rfl rfl trivial rfl ?_
  refine sm rfl (new_app0 (m := (draftE ss ls).length) (news := (cellsE (draftE ss ls))) ap25 rfl rfl (cellsE_len _) (by omega) hE1.all (by omega) (by simp only [maxLen]; omega)) rfl rfl trivial rfl (fun p22 v22 ob22 hS22 => ?_)
  obtain ⟨B22, cap22, rfl, hb22, -, -⟩ := hS22.slice
  refine s1 rfl (det_fieldAddr fld27_1 rfl) rfl rfl trivial rfl ?_
  refine s1 rfl (det_load1 t1_3 rfl rfl (.head _) rfl) rfl rfl trivial rfl ?_
  refine s1 rfl (det_build rfl (fun w => bld27_0_1 _ _ _ _ w)) rfl rfl trivial rfl ?_
  refine sm1 rfl (new_alloc z27) rfl rfl trivial rfl (fun p8 => ?_)
  refine sg_nil ?_
  refine stN (fun _ => by kernel_rfl) rfl tN27 rfl rfl rfl .head rfl trivial rfl rfl ?_
  refine be rfl ?_
  refine k_then ?_
  refine t_seq ?_
  refine t_seq ?_
  refine b0 ?_
  refine o1 rfl (det_fieldAddr fld27_0 rfl) rfl rfl trivial ?_
  refine o1 rfl (det_load1 t1_25 rfl rfl (.tail _ (.tail _ (.tail _ (.tail _ (.tail _ (.head _)))))) rfl) rfl rfl trivial ?_
  refine o1 rfl (det_lenS sl25 rfl) rfl rfl trivial ?_
  refine o1 rfl (det_gtr rfl rfl) rfl rfl trivial ?_
  refine o2P decide_eq_true_iff rfl (det_move rfl) rfl rfl trivial (fun hb => ?_) (fun hb => ?_)
  ·
    refine o1 rfl (det_move rfl) rfl rfl ⟨_, rfl, rfl⟩ ?_
    first | (refine o1 rfl (det_remP rfl rfl ?_) rfl rfl ⟨_, rfl, rfl⟩ ?_; · omega) | (refine o1 rfl (det_rem rfl rfl ?_) rfl rfl ⟨_, rfl, rfl⟩ ?_; · (first | decide | omega))
    refine o1 rfl (det_gtr rfl rfl) rfl rfl ⟨_, rfl, rfl⟩ ?_
    refine o1 rfl (det_pickT rfl rfl) rfl rfl trivial ?_
    refine be rfl ?_
    refine k_then ?_
    refine t_condP decide_eq_true_iff rfl (fun hb => ?_) (fun hb => ?_)
    ·
      have hpos : 0 < es.length := by omega
      obtain ⟨A, rfl⟩ := hE.some hpos
      have hix0 : 0 ≤ b % ((draftE ss ls).length : Int) ∧ b % ((draftE ss ls).length : Int) < ((draftE ss ls).length : Int) := ⟨Int.emod_nonneg b (by omega), Int.emod_lt_of_pos b (by omega)⟩
      have hix : (b % ((draftE ss ls).length : Int)).toNat < (draftE ss ls).length := by omega
      have hS0 := hS22
      rcases hS0.2 with ⟨h0, h00, _⟩ | ⟨q22, cq22, rest22, hv22, hb22, hle22, hmx22, hlen22⟩
      · exfalso; omega
      cases hv22
      cases hb22
      refine bD mixed ?_
      refine r_seg 14 13 [] [0, 1, 2, 3, 4, 5, 6, 7, 8, 9, 10, 11, 12] (by kernel_rfl) ?_
      refine s1 rfl (det_fieldAddr fld27_0 rfl) rfl rfl trivial rfl ?_
      refine s1 rfl (det_load1 t1_25 rfl rfl (.head _) rfl) rfl rfl trivial rfl ?_
      refine s1 rfl (det_move rfl) rfl rfl trivial rfl ?_
      first | (refine s1 rfl (det_convW Try.underlying5 Try.underlying3 rfl ?_) rfl rfl trivial rfl ?_; · exact IntWalk.i64_in _ (by omega)) | refine s1 rfl (det_conv Try.underlying5 Try.underlying3 rfl) rfl rfl trivial rfl ?_
      refine s1 rfl (det_fieldAddr fld27_0 rfl) rfl rfl trivial rfl ?_
      refine s1 rfl (det_load1 t1_25 rfl rfl (.head _) rfl) rfl rfl trivial rfl ?_
      refine s1 rfl (det_lenS sl25 rfl) rfl rfl trivial rfl ?_
      first | (refine s1 rfl (det_remP rfl rfl ?_) rfl rfl trivial rfl ?_; · omega) | (refine s1 rfl (det_rem rfl rfl ?_) rfl rfl trivial rfl ?_; · (first | decide | omega))
      refine s1 rfl (det_fieldAddr fld27_0 rfl) rfl rfl trivial rfl ?_
      refine s1 rfl (det_load1 t1_25 rfl rfl (.tail _ (.tail _ (.tail _ (.tail _ (.tail _ (.head _)))))) rfl) rfl rfl trivial rfl ?_
      first | (refine s1 rfl (det_indexAddr sl25 rfl rfl ?_) rfl rfl trivial rfl ?_; · (first | decide | omega))
      refine s1 rfl (det_loadKN tN57 rfl rfl (by have := (hE.mono hF1).cells hpos; simpa using this)) rfl rfl trivial rfl ?_
      first | (refine s1 rfl (det_indexAddr sl25 rfl rfl ?_) rfl rfl trivial rfl ?_; · (first | decide | omega))
      refine sg_nil ?_
      refine stN (p := p22) (fun _ => by kernel_rfl) rfl tN57 rfl (by rw [add_mk, Nat.zero_add]) rfl (.tail .head) (setE rest22 _ _ hix _) trivial rfl rfl ?_
      have hSx : SlO 57 2 (.slice (some ⟨p22, 0, none⟩) (draftE ss ls).length cap22) (draftE ss ls).length (cellsE ((draftE ss ls).set (b % ((draftE ss ls).length : Int)).toNat ((es[0]'hpos).1, (es[0]'hpos).2))) [(p22, .cells (cellsE ((draftE ss ls).set (b % ((draftE ss ls).length : Int)).toNat ((es[0]'hpos).1, (es[0]'hpos).2)) ++ rest22).toArray 57 (0, 0))] :=
        ⟨by rw [cellsE_len, List.length_set], .inr ⟨p22, cap22, rest22, rfl, rfl, hle22, hmx22, by rw [List.length_append, cellsE_len, List.length_set, ← cellsE_len, ← List.length_append]; exact hlen22⟩⟩
      refine be rfl ?_
      refine k_then ?_
      refine t_seq ?_
      refine b0 ?_
      refine o1 rfl (det_loadN tN27 rfl rfl (.tail _ (.tail _ (.tail _ (.head _)))) rfl) rfl rfl trivial ?_
      refine o1 rfl (det_loadN tN27 rfl rfl (.tail _ (.tail _ (.tail _ (.tail _ (.tail _ (.head _)))))) rfl) rfl rfl trivial ?_
      refine o1 rfl (det_loadN tN27 rfl rfl (.head _) rfl) rfl rfl trivial ?_
      refine o1 rfl (det_build rfl (fun w => bld28_0_1_2 _ _ _ _ _ _ _ _ _ _ _ _ w)) rfl rfl trivial ?_
      refine stN nofun rfl tN28 rfl rfl rfl (.tail (.tail (.tail (.tail .head)))) rfl trivial rfl rfl ?_
      refine be rfl ?_
      refine k_then ?_
      refine t_ret ?_
      refine ret_any (vs := [_]) rfl rfl ⟨(.cellN tN28 rfl rfl (.tail _ (.tail _ (.tail _ (.tail _ (.head _))))) rfl), trivial⟩ rfl (fun w1 hs => ?_)
      refine end_fresh hs fun F2 g1 g2 g3 => ?_
      obtain ⟨C3, cc3, hv3, _, hE3⟩ := entK_of (es := ((draftE ss ls).set (b % ((draftE ss ls).length : Int)).toNat ((es[0]'hpos).1, (es[0]'hpos).2))) hSx (rngE_set hdr _ ⟨(hE.rng 0 hpos).1, (hE.rng 0 hpos).2.1⟩ ⟨(hE.rng 0 hpos).2.2.1, (hE.rng 0 hpos).2.2.2⟩) (F' := F2) fun p cs t fr k hm => g3 p cs t fr k (List.mem_cons_of_mem _ (by rw [List.mem_singleton.1 hm]; exact .head _))
      cases hv3
      have hcy1 : -9223372036854775808 ≤ sumL (draftE ss ls) ∧ sumL (draftE ss ls) ≤ 9223372036854775807 := by omega
      refine ⟨_, _, _, _, _, _, _, _, _, _, _, _, _, _, _, rfl, hE1.mono fun a u ha => (hN1 a u ha).elim (g1 a u) (g2 a u ha), hmn ▸ ((hE.take 140).mono g1), hE3, hcy1, hcy, hcy1⟩
    ·
      refine b0 ?_
      refine o1 rfl (det_fieldAddr fld27_1 rfl) rfl rfl trivial ?_
      refine o1 rfl (det_load1 t1_3 rfl rfl (.tail _ (.tail _ (.tail _ (.tail _ (.tail _ (.head _)))))) rfl) rfl rfl trivial ?_
      refine o1 rfl (det_fieldAddr fld27_1 rfl) rfl rfl trivial ?_
      refine st1 nofun rfl t1_3 rfl rfl rfl .head rfl trivial rfl ?_
      refine be rfl ?_
      refine k_then ?_
      refine t_seq ?_
      refine b0 ?_
      refine o1 rfl (det_loadN tN27 rfl rfl (.tail _ (.tail _ (.tail _ (.head _)))) rfl) rfl rfl trivial ?_
      refine o1 rfl (det_loadN tN27 rfl rfl (.tail _ (.tail _ (.tail _ (.tail _ (.tail _ (.head _)))))) rfl) rfl rfl trivial ?_
      refine o1 rfl (det_loadN tN27 rfl rfl (.head _) rfl) rfl rfl trivial ?_
      refine o1 rfl (det_build rfl (fun w => bld28_0_1_2 _ _ _ _ _ _ _ _ _ _ _ _ w)) rfl rfl trivial ?_
      refine stN nofun rfl tN28 rfl rfl rfl (.tail (.tail (.tail (.tail .head)))) rfl trivial rfl rfl ?_
      refine be rfl ?_
      refine k_then ?_
      refine t_ret ?_
      refine ret_any (vs := [_]) rfl rfl ⟨(.cellN tN28 rfl rfl (.tail _ (.tail _ (.tail _ (.tail _ (.head _))))) rfl), trivial⟩ rfl (fun w1 hs => ?_)
      refine end_fresh hs fun F2 g1 g2 g3 => ?_
      obtain ⟨C3, cc3, hv3, _, hE3⟩ := entK_of (es := (draftE ss ls)) hS22 hdr (F' := F2) fun p cs t fr k hm => g3 p cs t fr k (List.mem_cons_of_mem _ (by rw [List.mem_singleton.1 hm]; exact .head _))
      cases hv3
      have hcy1 : -9223372036854775808 ≤ sumL (draftE ss ls) ∧ sumL (draftE ss ls) ≤ 9223372036854775807 := by omega
      refine ⟨_, _, _, _, _, _, _, _, _, _, _, _, _, _, _, rfl, hE1.mono fun a u ha => (hN1 a u ha).elim (g1 a u) (g2 a u ha), hmn ▸ ((hE.take 140).mono g1), hE3, hcy1, hcy, hcy⟩
  ·
    refine on rfl rfl rfl ⟨_, rfl, .inl rfl⟩ ?_
    refine on rfl rfl rfl ⟨_, rfl, .inl rfl⟩ ?_
    refine on rfl rfl rfl ⟨_, rfl, .inl rfl⟩ ?_
    refine o1 rfl (det_pickF rfl rfl) rfl rfl trivial ?_
    refine be rfl ?_
    refine k_then ?_
    refine t_condF rfl ?_
    refine b0 ?_
    refine o1 rfl (det_fieldAddr fld27_1 rfl) rfl rfl trivial ?_
    refine o1 rfl (det_load1 t1_3 rfl rfl (.tail _ (.tail _ (.tail _ (.tail _ (.tail _ (.head _)))))) rfl) rfl rfl trivial ?_
    refine o1 rfl (det_fieldAddr fld27_1 rfl) rfl rfl trivial ?_
    refine st1 nofun rfl t1_3 rfl rfl rfl .head rfl trivial rfl ?_
    refine be rfl ?_
    refine k_then ?_
    refine t_seq ?_
    refine b0 ?_
    refine o1 rfl (det_loadN tN27 rfl rfl (.tail _ (.tail _ (.tail _ (.head _)))) rfl) rfl rfl trivial ?_
    refine o1 rfl (det_loadN tN27 rfl rfl (.tail _ (.tail _ (.tail _ (.tail _ (.tail _ (.head _)))))) rfl) rfl rfl trivial ?_
    refine o1 rfl (det_loadN tN27 rfl rfl (.head _) rfl) rfl rfl trivial ?_
    refine o1 rfl (det_build rfl (fun w => bld28_0_1_2 _ _ _ _ _ _ _ _ _ _ _ _ w)) rfl rfl trivial ?_
    refine stN nofun rfl tN28 rfl rfl rfl (.tail (.tail (.tail (.tail .head)))) rfl trivial rfl rfl ?_
    refine be rfl ?_
    refine k_then ?_
    refine t_ret ?_
    refine ret_any (vs := [_]) rfl rfl ⟨(.cellN tN28 rfl rfl (.tail _ (.tail _ (.tail _ (.tail _ (.head _))))) rfl), trivial⟩ rfl (fun w1 hs => ?_)
    refine end_fresh hs fun F2 g1 g2 g3 => ?_
    obtain ⟨C3, cc3, hv3, _, hE3⟩ := entK_of (es := (draftE ss ls)) hS22 hdr (F' := F2) fun p cs t fr k hm => g3 p cs t fr k (List.mem_cons_of_mem _ (by rw [List.mem_singleton.1 hm]; exact .head _))
    cases hv3
    have hcy1 : -9223372036854775808 ≤ sumL (draftE ss ls) ∧ sumL (draftE ss ls) ≤ 9223372036854775807 := by omega
    refine ⟨_, _, _, _, _, _, _, _, _, _, _, _, _, _, _, rfl, hE1.mono fun a u ha => (hN1 a u ha).elim (g1 a u) (g2 a u ha), hmn ▸ ((hE.take 140).mono g1), hE3, hcy1, hcy, hcy⟩

end Go.Proofs.Gt
