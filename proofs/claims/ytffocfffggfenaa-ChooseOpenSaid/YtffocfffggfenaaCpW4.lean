/-
  Walks through layers 36, 37 and 38 and their references.
-/
import Derived.Test.YtffocfffggfenaaCpW3
import Derived.Test.YtffocfffggfenaaEng4ToEng10
namespace Go.Proofs.Cp
open Go Go.Eng Go.Gt Go.Proofs.Gt
set_option maxRecDepth 4000

/-- gates.walk. -/
theorem walk_on {w : World} {F : Know} (hF : ∀ a v, F a = some v → w.cell? a = some v) {A : Option Addr} {n cap : Nat} {es : Ents} {cyc : Int} (hE : EntK F A n es) (hG : okG es cyc = true) (t : Int) (ht : -1099511627776 * 4 ≤ t ∧ t ≤ 1099511627776 * 4) {cp0 : Own} (haway : ∀ a v, F a = some v → a.block ∉ idsO cp0) (hnd : (idsO cp0).Nodup) (hown : ∀ x ∈ cp0, w.heap[x.1]? = some x.2) {fid : FuncId} {caps : List Value} (hbody : HasBody Try.prog fid) {R Ro : Nat → Own → Prop} (h0 : R 0 cp0)
  (hcl : ∀ i, i < es.length → ∀ cp, R i cp → idsO cp = idsO cp0 → ∀ w1 : World, (∀ a v, F a = some v → w1.cell? a = some v) → (∀ x ∈ cp, w1.heap[x.1]? = some x.2) →
    CallsOn Try.prog fid ([.agg [.int .i64 (ent es (loc es cyc t).1 i).1, .int .i64 (ent es (loc es cyc t).1 i).2].toArray, .int .i64 (beg es cyc t i)] ++ caps) w1 cp (fun v cp' => ∃ b : Bool, v = .bool b ∧ (b = true → R (i + 1) cp') ∧ (b = false → Ro i cp'))) : CallsOn Try.prog 92 [.agg [.slice A n cap, .int .i64 cyc].toArray, .int .i64 t, .func (.func fid) #[] caps.toArray] w (cp0) (fun v cp1 => ∃ b : Bool, v = .bool b ∧ (b = true → R es.length cp1) ∧ (b = false → ∃ i, i < es.length ∧ Ro i cp1)) := by
  obtain ⟨hl1, hl2, hall0, hsum, hc9, hc1⟩ := okG_parts hG
  replace hc1 : 0 < cyc := by omega

  refine fn_on (F := F) Try.func92 rfl Try.ntmps92 rfl hF haway hnd hown ?_
  refine t_seq ?_
  refine b0 ?_
  refine om1 rfl (new_boxN rfl) rfl rfl trivial (fun p3 => ?_)
  refine o1 rfl (det_assign rfl) rfl rfl trivial ?_
  refine be rfl ?_
  refine k_then ?_
  refine t_seq ?_
  refine b0 ?_
  refine o1 rfl (det_loadN tN24 rfl rfl (.head _) rfl) rfl rfl trivial ?_
  refine o1 rfl (det_move rfl) rfl rfl trivial ?_
  refine o1 rfl (det_call hb112 rfl rfl (fun w1 hs => entry_ok hs.know hE hG t ht)) rfl rfl trivial ?_
  refine o1 rfl (det_move rfl) rfl rfl trivial ?_
  refine o1 rfl (det_extract rfl rfl) rfl rfl trivial ?_
  refine o1 rfl (det_extract rfl rfl) rfl rfl trivial ?_
  refine o1 rfl (det_assign rfl) rfl rfl trivial ?_
  refine o1 rfl (det_assign rfl) rfl rfl trivial ?_
  refine be rfl ?_
  refine k_then ?_
  refine t_seq ?_
  refine t_seq ?_
  refine b0 ?_
  refine o1 rfl (det_fieldAddr fld24_0 rfl) rfl rfl trivial ?_
  refine o1 rfl (det_load1 t1_22 rfl rfl (.head _) rfl) rfl rfl trivial ?_
  refine o1 rfl (det_lenS sl22 rfl) rfl rfl trivial ?_
  refine o1 rfl (det_move rfl) rfl rfl trivial ?_
  refine be rfl ?_
  refine k_then ?_
  refine t_block ?_
  refine t_whileM (σ := Nat × Own) (fun s => [(20, .int .i64 (s.1 : Int)), (8, .int .i64 (beg es cyc t s.1))]) (fun s => (p3, .cells [.slice A n cap, .int .i64 cyc].toArray 24 (0, 0)) :: s.2) (fun s => es.length - s.1) (fun s => s.1 ≤ es.length ∧ R s.1 s.2 ∧ idsO s.2 = idsO cp0) (0, cp0) (env0 := [(2, _), (3, _), (7, _), (19, _)]) ⟨Nat.zero_le _, h0, rfl⟩ ⟨rfl, (by simp only [beg, rs, Int.add_zero]; rfl), trivial⟩ ⟨rfl, rfl, rfl, rfl, trivial⟩ (.refl _) ?_
  rintro s ⟨hk, hR, hi⟩
  refine t_seq ?_
  refine b0 ?_
  refine o1 rfl (det_lss rfl rfl) rfl rfl trivial ?_
  refine be rfl ?_
  refine k_then ?_
  refine t_seq ?_
  refine t_condP decide_eq_true_iff rfl (fun hb => ?_) (fun hb => ?_)
  ·
    have hlt : s.1 < es.length := by have := hE.len; omega
    have hnl := hE.len
    have hlo := loc_spec hG t
    obtain ⟨hlo, hy0, hy1, _⟩ := hlo
    obtain ⟨A, rfl⟩ := hE.some hlt
    have hmlt := Nat.mod_lt ((loc es cyc t).1 + s.1) hl1
    have hmod : (((loc es cyc t).1 : Int) + (s.1 : Int)) % (n : Int) = (((((loc es cyc t).1 + s.1) % es.length : Nat)) : Int) := by rw [hnl, ← Int.natCast_add, ← Int.natCast_emod]
    have hcell : ∀ j, j < 2 → F ((A.add (((((loc es cyc t).1 : Int) + (s.1 : Int)) % (n : Int)).toNat * 2)).add j) = [Value.int .i64 (ent es (loc es cyc t).1 s.1).1, .int .i64 (ent es (loc es cyc t).1 s.1).2][j]? := by
      rw [hmod, ent_get _ _ hl1]; exact hE.cells hmlt
    have hrs := rs_bounds hall0 hl1 (loc es cyc t).1 s.1
    have hen := ent_ok hall0 hl1 (loc es cyc t).1 s.1
    have hyb := loc_bounds hG t
    have hbg : beg es cyc t s.1 = t - (loc es cyc t).2 + rs es (loc es cyc t).1 s.1 := rfl
    refine t_skip ?_
    refine k_then ?_
    refine t_seq ?_
    refine t_block ?_
    refine t_seq ?_
    refine b0 ?_
    refine o1 rfl (det_move rfl) rfl rfl trivial ?_
    refine o1 rfl (det_assign rfl) rfl rfl trivial ?_
    refine be rfl ?_
    refine k_then ?_
    refine t_seq ?_
    refine bD mixed ?_
    refine r_seg 13 12 [11] [0, 1, 2, 3, 4, 5, 6, 7, 8, 9, 10, 11] (by kernel_rfl) ?_
    refine s1 rfl (det_fieldAddr fld24_0 rfl) rfl rfl trivial rfl ?_
    refine s1 rfl (det_load1 t1_22 rfl rfl (.head _) rfl) rfl rfl trivial rfl ?_
    refine s1 rfl (det_move rfl) rfl rfl trivial rfl ?_
    refine s1 rfl (det_move rfl) rfl rfl trivial rfl ?_
    first | (refine s1 rfl (det_addI rfl rfl ?_) rfl rfl trivial rfl ?_; (· omega)) | refine s1 rfl (det_add rfl rfl) rfl rfl trivial rfl ?_
    refine s1 rfl (det_fieldAddr fld24_0 rfl) rfl rfl trivial rfl ?_
    refine s1 rfl (det_load1 t1_22 rfl rfl (.head _) rfl) rfl rfl trivial rfl ?_
    refine s1 rfl (det_lenS sl22 rfl) rfl rfl trivial rfl ?_
    first | (refine s1 rfl (det_remP rfl rfl ?_) rfl rfl trivial rfl ?_; (· omega)) | (refine s1 rfl (det_rem rfl rfl ?_) rfl rfl trivial rfl ?_; (· (first | decide | omega)))
    first | (refine s1 rfl (det_indexAddr sl22 rfl rfl ?_) rfl rfl trivial rfl ?_; (· (first | decide | omega)))
    refine s1 rfl (det_loadKN tN59 rfl rfl hcell) rfl rfl trivial rfl ?_
    refine sm1 rfl (new_alloc z59) rfl rfl trivial rfl (fun p10 => ?_)
    refine sg_nil ?_
    refine stN (fun _ => by kernel_rfl) rfl tN59 rfl rfl rfl .head rfl trivial rfl rfl ?_
    refine be rfl ?_
    refine k_then ?_
    refine t_seq ?_
    refine t_seq ?_
    refine b0 ?_
    refine o1 rfl (det_move rfl) rfl rfl trivial ?_
    refine o1 rfl (det_loadN tN59 rfl rfl (.head _) rfl) rfl rfl trivial ?_
    refine o1 rfl (det_move rfl) rfl rfl trivial ?_
    refine oOnS (pre := [_, _]) (cp := s.2) nofun rfl hbody rfl rfl rfl trivial (fun w1 hs => hcl s.1 hlt s.2 hR hi w1 hs.know (fun x hx => hs.own x (List.mem_append_right _ hx))) (fun v cp1 hv hi1 => ?_)
    obtain ⟨b, rfl, hRt, hRf⟩ := hv
    refine o1 rfl (det_not rfl) rfl rfl trivial ?_
    refine be rfl ?_
    refine k_then ?_
    refine t_condP not_iff_false rfl (fun hb => ?_) (fun hb => ?_)
    ·
      refine t_seq ?_
      refine b0 ?_
      refine o1 rfl (det_assign rfl) rfl rfl trivial ?_
      refine be rfl ?_
      refine k_then ?_
      refine t_ret (k_thenR (k_blkR (k_thenR (k_thenR (k_blkR (k_thenR (?_)))))))
      refine ret_tmp rfl rfl rfl (fun w1 hs => ?_)
      refine end_on (bs := [_, _]) hs (hi1.trans hi) ⟨_, rfl, nofun, fun _ => ⟨s.1, hlt, hRf hb⟩⟩
    ·
      refine t_skip ?_
      refine k_then ?_
      refine b0 ?_
      refine o1 rfl (det_move rfl) rfl rfl trivial ?_
      refine o1 rfl (det_fieldAddr fld59_1 rfl) rfl rfl trivial ?_
      refine o1 rfl (det_load1 t1_3 rfl rfl (.head _) rfl) rfl rfl trivial ?_
      first | (refine o1 rfl (det_addI rfl rfl ?_) rfl rfl trivial ?_; (· omega)) | refine o1 rfl (det_add rfl rfl) rfl rfl trivial ?_
      refine o1 rfl (det_assign rfl) rfl rfl trivial ?_
      refine be rfl ?_
      refine k_blk ?_
      refine k_then ?_
      refine b0 ?_
      first | (refine o1 rfl (det_addI rfl rfl ?_) rfl rfl trivial ?_; (· omega)) | refine o1 rfl (det_add rfl rfl) rfl rfl trivial ?_
      refine o1 rfl (det_move rfl) rfl rfl trivial ?_
      refine be rfl ?_
      refine k_then ?_
      refine loop_back (s.1 + 1, cp1) ⟨by show s.1 + 1 ≤ _; omega, hRt (by simpa using hb), hi1.trans hi⟩ (by simp only; omega) ⟨rfl, (by simp only [beg, rs, Int.add_assoc]; rfl), rfl, rfl, rfl, rfl, trivial⟩ (.cons _ (.refl _))
  ·
    refine t_exit ?_
    refine k_thenE ?_
    refine k_thenE ?_
    refine k_blkE ?_
    refine k_then ?_
    refine t_seq ?_
    refine b0 ?_
    refine o1 rfl (det_assign rfl) rfl rfl trivial ?_
    refine be rfl ?_
    refine k_then ?_
    refine t_ret ?_
    refine ret_tmp rfl rfl rfl (fun w1 hs => ?_)
    refine end_on (bs := [_]) hs hi ⟨_, rfl, fun _ => ?_, nofun⟩
    rwa [show s.1 = es.length from by have := hE.len; omega] at hR

end Go.Proofs.Cp
