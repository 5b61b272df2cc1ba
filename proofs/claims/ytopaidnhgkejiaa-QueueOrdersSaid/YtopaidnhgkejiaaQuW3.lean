/-
  Walks through layer 36 and its reference.
-/
import Derived.Test.YtopaidnhgkejiaaQuW2
namespace Go.Proofs.Qu
open Go Go.Eng Go.Qu
set_option maxRecDepth 4000

/-- parts. -/
theorem parts_ok {w : World} {F : Know} (hF : ∀ a v, F a = some v → w.cell? a = some v) {A : Option Addr} {n c : Nat} {cap : Int} : CallsF Try.prog 34 [.agg [.int .i64 cap, .slice A n c].toArray] w noK (fun v F2 => ∃ p, v = .func (.func 37) [].toArray [.pointer (some ⟨p, 0, none⟩)].toArray ∧ F2 ⟨p, 0, none⟩ = some (.int .i64 cap) ∧ F2 ⟨p, 1, none⟩ = some (.slice A n c)) := by
  refine fn_fresh (F := F) Try.func34 rfl Try.ntmps34 rfl hF ?_
  refine t_seq ?_
  refine b0 ?_
  refine om1 rfl (new_boxN rfl) rfl rfl trivial (fun p1 => ?_)
  refine o1 rfl (det_assign rfl) rfl rfl trivial ?_
  refine be rfl ?_
  refine k_then ?_
  refine t_seq ?_
  refine b0 ?_
  refine o1 rfl (det_makeFunc rfl rfl) rfl rfl trivial ?_
  refine o1 rfl (det_assign rfl) rfl rfl trivial ?_
  refine be rfl ?_
  refine k_then ?_
  refine t_ret ?_
  refine ret_tmp rfl rfl rfl (fun w1 hs => ?_)
  exact end_fresh hs fun F2 _ _ h => ⟨p1, rfl, h p1 _ _ _ 0 (.head _) _ rfl, h p1 _ _ _ 1 (.head _) _ rfl⟩

/-- parts' iterator. -/
theorem parts_gives {F : Know} {A : Option Addr} {n c : Nat} {ps : List Pt} (hP : PK F A n ps) (hnb : n ≤ 65536) {p : Nat} (h0 : F ⟨p, 1, none⟩ = some (.slice A n c)) : Gives Try.prog 37 [.pointer (some ⟨p, 0, none⟩)] F (yldP ps) := by
  refine fn_gives Try.func37 rfl Try.ntmps37 rfl fun l J Jx w hR hJ => ?_
  refine t_seq ?_
  refine b0 ?_
  refine o1 rfl (det_fieldAddr fld66_0 rfl) rfl rfl trivial ?_
  refine o1 rfl (det_fieldAddr fld24_1 rfl) rfl rfl trivial ?_
  refine o1 rfl (det_loadK t1_22 rfl (by simpa [add_mk] using h0)) rfl rfl trivial ?_
  refine o1 rfl (det_lenS sl22 rfl) rfl rfl trivial ?_
  refine o1 rfl (det_move rfl) rfl rfl trivial ?_
  refine be rfl ?_
  refine k_then ?_
  refine t_block ?_
  refine t_whileG (σ := Nat) (fun s => [(9, .int .i64 s)]) (fun s => ps.length - s) (fun s => fun w1 => s ≤ ps.length ∧ J s w1) 0 (env0 := [(0, _), (7, _), (8, _)]) ⟨Nat.zero_le _, hJ⟩ ⟨rfl, trivial⟩ ⟨rfl, rfl, rfl, trivial⟩ ?_
  rintro s w1 ⟨hsl, hJ⟩
  have hnl := hP.len
  refine t_seq ?_
  refine b0 ?_
  refine o1 rfl (det_lss rfl rfl) rfl rfl trivial ?_
  refine be rfl ?_
  refine k_then ?_
  refine t_seq ?_
  refine t_condP decide_eq_true_iff rfl (fun hb => ?_) (fun hb => ?_)
  ·
    have hlt : s < ps.length := by omega
    obtain ⟨A, rfl⟩ := hP.some hlt
    refine t_skip ?_
    refine k_then ?_
    refine t_seq ?_
    refine t_block ?_
    refine t_seq ?_
    refine b0 ?_
    refine o1 rfl (det_move rfl) rfl rfl trivial ?_
    first | (refine o1 rfl (det_indexAddr sl22 rfl rfl ?_) rfl rfl trivial ?_; (· (first | decide | omega)))
    refine o1 rfl (det_loadKN tN28 rfl (ptv_len ps[s]) (hP.cells (i := (s : Int)) (k := s) (Int.toNat_natCast s) hlt (ptv_len _))) rfl rfl trivial ?_
    refine om1 rfl (new_alloc z28) rfl rfl trivial (fun p4 => ?_)
    refine o1 rfl (det_assign rfl) rfl rfl trivial ?_
    refine stN nofun rfl tN28 rfl rfl rfl .head rfl trivial rfl rfl ?_
    refine be rfl ?_
    refine k_then ?_
    refine t_seq ?_
    refine b0 ?_
    refine o1 rfl (det_move rfl) rfl rfl trivial ?_
    refine o1 rfl (det_move rfl) rfl rfl trivial ?_
    refine o1 rfl (det_loadN tN28 rfl rfl (.head _) rfl) rfl rfl trivial ?_
    refine oY hR hJ (by rw [yldP_len]; exact hlt) nofun rfl rfl rfl rfl trivial (by rw [yldP_get (by rw [yldP_len]; exact hlt), atP_get hlt]; rfl) (fun w1 hJ => ?_) (fun w1 hX => ?_)
    ·
      refine o1 rfl (det_not rfl) rfl rfl trivial ?_
      refine be rfl ?_
      refine k_then ?_
      refine t_condF rfl ?_
      refine t_skip ?_
      refine k_blk ?_
      refine k_then ?_
      refine b0 ?_
      first | (refine o1 rfl (det_addI rfl rfl ?_) rfl rfl trivial ?_; (· omega)) | refine o1 rfl (det_add rfl rfl) rfl rfl trivial ?_
      refine o1 rfl (det_move rfl) rfl rfl trivial ?_
      refine be rfl ?_
      refine k_then ?_
      refine loop_backG (s + 1) ⟨by omega, hJ⟩ (by omega) ⟨rfl, rfl, rfl, rfl, trivial⟩
    ·
      refine o1 rfl (det_not rfl) rfl rfl trivial ?_
      refine be rfl ?_
      refine k_then ?_
      refine t_condT rfl ?_
      refine t_ret (k_blkR (k_thenR (k_thenR (k_blkR (?_)))))
      refine ret_any (vs := []) rfl rfl trivial rfl (fun w1 hs => ?_)
      exact ⟨_, rfl, .inr (hR.stx _ _ hX hs.keep)⟩
  ·
    have hse : s = ps.length := by omega
    subst hse
    refine t_exit ?_
    refine k_thenE ?_
    refine k_thenE ?_
    refine k_blkE ?_
    refine end_none rfl rfl (fun w1 hs => ?_)
    exact ⟨_, rfl, .inl (hR.st _ _ _ (by rw [yldP_len]; exact hJ) hs.keep)⟩

/-- octets' function. -/
theorem oct1_ok {w : World} {F : Know} (hF : ∀ a v, F a = some v → w.cell? a = some v) {p : Pt} : Pure Try.prog 36 [.agg [.int .i64 p.it.st, .int .i64 p.it.sq, .int .i64 p.it.cl, .int .i64 p.it.sz, .int .i64 p.it.sn, .int .i64 p.left, .bool p.rest].toArray] w (.int .i64 p.left) := by
  refine fn_pure (F := F) Try.func36 rfl Try.ntmps36 rfl hF ?_
  refine t_seq ?_
  refine b0 ?_
  refine om1 rfl (new_boxN rfl) rfl rfl trivial (fun p1 => ?_)
  refine o1 rfl (det_assign rfl) rfl rfl trivial ?_
  refine be rfl ?_
  refine k_then ?_
  refine t_seq ?_
  refine b0 ?_
  refine o1 rfl (det_fieldAddr fld28_1 rfl) rfl rfl trivial ?_
  refine o1 rfl (det_load1 t1_3 rfl rfl (.head _) rfl) rfl rfl trivial ?_
  refine o1 rfl (det_assign rfl) rfl rfl trivial ?_
  refine be rfl ?_
  refine k_then ?_
  refine t_ret ?_
  refine ret_tmp rfl rfl rfl (fun w1 hs => ?_)
  exact ⟨rfl, hs.keep⟩

/-- sum. -/
theorem sum_ok {w : World} {F : Know} (hF : ∀ a v, F a = some v → w.cell? a = some v) {ps : List Pt} {p : Nat} (G : Gives Try.prog 37 [.pointer (some ⟨p, 0, none⟩)] F (yldP ps)) (hb : ∀ k, k < ps.length → 0 ≤ (atP ps k).left ∧ (atP ps k).left ≤ 65536) (hnb : ps.length ≤ 65536) : Pure Try.prog 35 [.func (.func 37) [].toArray [.pointer (some ⟨p, 0, none⟩)].toArray, .func (.func 36) [].toArray [].toArray] w (.int .i64 (octs ps)) := by
  refine fn_pure (F := F) Try.func35 rfl Try.ntmps35 rfl hF ?_
  refine t_seq ?_
  refine b0 ?_
  refine om1 rfl (new_box1 rfl rfl) rfl rfl trivial (fun p3 => ?_)
  refine o1 rfl (det_assign rfl) rfl rfl trivial ?_
  refine be rfl ?_
  refine k_then ?_
  refine t_seq ?_
  refine b0 ?_
  refine om1 rfl (new_alloc z3) rfl rfl trivial (fun p5 => ?_)
  refine st1 nofun rfl t1_3 rfl rfl rfl .head rfl trivial rfl ?_
  refine be rfl ?_
  refine k_then ?_
  refine t_seq ?_
  refine t_seq ?_
  refine b0 ?_
  refine o1 rfl (det_move rfl) rfl rfl trivial ?_
  refine be rfl ?_
  refine k_then ?_
  refine t_block ?_
  refine t_rangeF (σ := Int) (fun s => [(p5, .cells [.int .i64 s].toArray 3 (0, 0)), (p3, .cells [.func (.func 36) [].toArray [].toArray].toArray 75 (0, 0))]) (fun k s => s = octK ps k) (fun _ s => False) 0 (fun k => [.int .i64 k, .agg (ptv (atP ps k)).toArray]) (xs := yldP ps) (env0 := [(3, _), (4, _), (5, _)]) rfl hb37 (G.incl (fun _ _ h => h)) (fun k hk => yldP_get hk) (fun _ => rfl) rfl (octK_zero ps).symm ⟨rfl, rfl, rfl, trivial⟩ (.refl _) ?_ ?_ ?_
  ·
    rintro l D r k s hr hk hI
    rw [yldP_len] at hk
    subst hI
    have hbk := hb k hk
    have hok := octK_bd hb k (by omega)
    refine b0 ?_
    refine om1 rfl (new_alloc z28) rfl rfl trivial (fun p7 => ?_)
    refine stN nofun rfl tN28 rfl rfl rfl .head rfl trivial rfl rfl ?_
    refine be rfl ?_
    refine k_then ?_
    refine k_begin (pre := [_, _, _]) hr.1 rfl ?_
    refine t_block ?_
    refine bD mixed ?_
    refine r_seg 6 5 [] [0, 1, 2, 3, 4] (by kernel_rfl) ?_
    refine s1 rfl (det_load1 t1_3 rfl rfl (.tail _ (.head _)) rfl) rfl rfl trivial rfl ?_
    refine s1 rfl (det_load1 t1_75 rfl rfl (.tail _ (.tail _ (.head _))) rfl) rfl rfl trivial rfl ?_
    refine s1 rfl (det_loadN tN28 rfl rfl (.head _) rfl) rfl rfl trivial rfl ?_
    refine s1 rfl (det_call hb36 rfl rfl (fun w1 hs => oct1_ok hs.know)) rfl rfl trivial rfl ?_
    first | (refine s1 rfl (det_addI rfl rfl ?_) rfl rfl trivial rfl ?_; (· omega)) | refine s1 rfl (det_add rfl rfl) rfl rfl trivial rfl ?_
    refine sg_nil ?_
    refine st1 (fun _ => by kernel_rfl) rfl t1_3 rfl rfl rfl (.tail .head) rfl trivial rfl ?_
    refine be rfl ?_
    refine k_blk ?_
    rw [← octK_succ hk]
    refine round_next (octK ps (k + 1)) hr rfl (.cons _ (.refl _)) rfl rfl
  ·
    rintro D s hI
    rw [yldP_len] at hI
    subst hI
    refine k_blk ?_
    refine k_then ?_
    refine t_seq ?_
    refine b0 ?_
    refine o1 rfl (det_load1 t1_3 rfl rfl (.head _) rfl) rfl rfl trivial ?_
    refine o1 rfl (det_assign rfl) rfl rfl trivial ?_
    refine be rfl ?_
    refine k_then ?_
    refine t_ret ?_
    refine ret_mark (pre := [_, _]) (vs := [_]) rfl rfl ⟨(.tmp rfl), trivial⟩ rfl (fun w1 hs => ?_)
    exact ⟨by rw [octK_all]; rfl, hs.keep⟩
  ·
    rintro D j s hX
    exact hX.elim

end Go.Proofs.Qu
