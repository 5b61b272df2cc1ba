/-
  Walks through layer 40 and its reference.
-/
import Derived.Test.YtichjhggoioenaaRcW6
namespace Go.Proofs.Rc
open Go Go.Eng Go.Rc
set_option maxRecDepth 4000

/-- past, where it does not apply. -/
theorem past0_on {w : World} {F : Know} (hF : ∀ a v, F a = some v → w.cell? a = some v) {p : Nat} {x : Wn} (hd : 0 < x.d) (haway : ∀ a v, F a = some v → a.block ∉ idsO (wcp p x)) (hnd : (idsO (wcp p x)).Nodup) (hown : ∀ y ∈ (wcp p x : Own), w.heap[y.1]? = some y.2) : CallsOn Try.prog 32 [.pointer (some ⟨p, 0, none⟩)] w (wcp p x) (fun v cp1 => v = .tuple [.bool (false), .bool (false)].toArray ∧ cp1 = wcp p (x)) := by
  refine fn_on (F := F) Try.func32 rfl Try.ntmps32 rfl hF haway hnd hown ?_
  refine t_seq ?_
  refine b0 ?_
  refine o1 rfl (det_assign rfl) rfl rfl trivial ?_
  refine o1 rfl (det_assign rfl) rfl rfl trivial ?_
  refine be rfl ?_
  refine k_then ?_
  refine t_seq ?_
  refine t_seq ?_
  refine b0 ?_
  refine o1 rfl (det_move rfl) rfl rfl trivial ?_
  refine o1 rfl (det_nilCheck rfl) rfl rfl trivial ?_
  refine o1 rfl (det_fieldAddr fld75_3 rfl) rfl rfl trivial ?_
  refine o1 rfl (det_load1 t1_3 rfl rfl (.head _) rfl) rfl rfl trivial ?_
  refine o1 rfl (det_gtr rfl rfl) rfl rfl trivial ?_
  refine be rfl ?_
  refine k_then ?_
  refine t_condP decide_eq_true_iff rfl (fun hb => ?_) (fun hb => ?_)
  ·
    skip
    refine t_seq ?_
    refine b0 ?_
    refine o1 rfl (det_assign rfl) rfl rfl trivial ?_
    refine o1 rfl (det_assign rfl) rfl rfl trivial ?_
    refine be rfl ?_
    refine k_then ?_
    refine t_ret (k_thenR (?_))
    refine ret_tmp2 rfl rfl rfl rfl (fun w1 hs => ?_)
    refine end_on (bs := []) (cp' := wcp p x) hs rfl ?_
    exact ⟨rfl, rfl⟩
  ·
    exfalso; exact hb hd --end

/-- past. -/
theorem past_on {w : World} {F : Know} (hF : ∀ a v, F a = some v → w.cell? a = some v) {p : Nat} {x : Wn} {i : Nat} (hd : x.d = -(i : Int)) (hi : i ≤ 63) (hse : x.r.se < 18446744073709551616) (haway : ∀ a v, F a = some v → a.block ∉ idsO (wcp p x)) (hnd : (idsO (wcp p x)).Nodup) (hown : ∀ y ∈ (wcp p x : Own), w.heap[y.1]? = some y.2) : CallsOn Try.prog 32 [.pointer (some ⟨p, 0, none⟩)] w (wcp p x) (fun v cp1 => v = .tuple [.bool (true), .bool (!x.r.se.testBit i)].toArray ∧ cp1 = wcp p (if x.r.se.testBit i then x else hitR x i)) := by
  refine fn_on (F := F) Try.func32 rfl Try.ntmps32 rfl hF haway hnd hown ?_
  refine t_seq ?_
  refine b0 ?_
  refine o1 rfl (det_assign rfl) rfl rfl trivial ?_
  refine o1 rfl (det_assign rfl) rfl rfl trivial ?_
  refine be rfl ?_
  refine k_then ?_
  refine t_seq ?_
  refine t_seq ?_
  refine b0 ?_
  refine o1 rfl (det_move rfl) rfl rfl trivial ?_
  refine o1 rfl (det_nilCheck rfl) rfl rfl trivial ?_
  refine o1 rfl (det_fieldAddr fld75_3 rfl) rfl rfl trivial ?_
  refine o1 rfl (det_load1 t1_3 rfl rfl (.head _) rfl) rfl rfl trivial ?_
  refine o1 rfl (det_gtr rfl rfl) rfl rfl trivial ?_
  refine be rfl ?_
  refine k_then ?_
  refine t_condP decide_eq_true_iff rfl (fun hb => ?_) (fun hb => ?_)
  · exfalso; omega
  refine t_skip ?_
  refine k_then ?_
  refine t_seq ?_
  refine b0 ?_
  refine o1 rfl (det_move rfl) rfl rfl trivial ?_
  refine o1 rfl (det_nilCheck rfl) rfl rfl trivial ?_
  refine o1 rfl (det_fieldAddr fld75_3 rfl) rfl rfl trivial ?_
  refine o1 rfl (det_load1 t1_3 rfl rfl (.head _) rfl) rfl rfl trivial ?_
  first | (refine o1 rfl (det_negI rfl ?_) rfl rfl trivial ?_; (· omega)) | refine o1 rfl (det_neg rfl) rfl rfl trivial ?_
  rw [show -x.d = (i : Int) by omega]
  first | (refine o1 rfl (det_shl rfl rfl ?_) rfl rfl trivial ?_; (· (first | decide | omega)))
  rw [one_bits i hi]
  refine o1 rfl (det_assign rfl) rfl rfl trivial ?_
  refine be rfl ?_
  refine k_then ?_
  refine t_seq ?_
  refine t_seq ?_
  refine b0 ?_
  refine o1 rfl (det_move rfl) rfl rfl trivial ?_
  refine o1 rfl (det_nilCheck rfl) rfl rfl trivial ?_
  refine o1 rfl (det_fieldAddr fld75_0 rfl) rfl rfl trivial ?_
  refine o1 rfl (det_fieldAddr fld24_5 rfl) rfl rfl trivial ?_
  refine o1 rfl (det_load1 t1_22 rfl rfl (.head _) rfl) rfl rfl trivial ?_
  refine o1 rfl (det_move rfl) rfl rfl trivial ?_
  refine o1 rfl (det_and rfl rfl) rfl rfl trivial ?_
  refine o1 rfl (det_neq rfl rfl) rfl rfl trivial ?_
  refine be rfl ?_
  refine k_then ?_
  refine t_condP bne_iff_ne rfl (fun hb => ?_) (fun hb => ?_)
  ·
    have hbit : x.r.se.testBit i = true := by cases h : x.r.se.testBit i with | true => rfl | false => exact absurd ((and_pow_zero hse hi).2 h) hb
    refine t_seq ?_
    refine b0 ?_
    refine o1 rfl (det_assign rfl) rfl rfl trivial ?_
    refine o1 rfl (det_assign rfl) rfl rfl trivial ?_
    refine be rfl ?_
    refine k_then ?_
    refine t_ret (k_thenR (?_))
    refine ret_tmp2 rfl rfl rfl rfl (fun w1 hs => ?_)
    refine end_on (bs := []) (cp' := wcp p x) hs rfl ?_
    rw [hbit]; exact ⟨rfl, rfl⟩
  ·
    have hbit : x.r.se.testBit i = false := (and_pow_zero hse hi).1 (by simpa using hb)
    refine t_skip ?_
    refine k_then ?_
    refine t_seq ?_
    refine b0 ?_
    refine o1 rfl (det_move rfl) rfl rfl trivial ?_
    refine o1 rfl (det_nilCheck rfl) rfl rfl trivial ?_
    refine o1 rfl (det_fieldAddr fld75_0 rfl) rfl rfl trivial ?_
    refine o1 rfl (det_fieldAddr fld24_5 rfl) rfl rfl trivial ?_
    refine o1 rfl (det_load1 t1_22 rfl rfl (.head _) rfl) rfl rfl trivial ?_
    refine o1 rfl (det_move rfl) rfl rfl trivial ?_
    refine o1 rfl (det_or rfl rfl) rfl rfl trivial ?_
    rw [or_pow hse hi]
    refine o1 rfl (det_nilCheck rfl) rfl rfl trivial ?_
    refine o1 rfl (det_fieldAddr fld75_0 rfl) rfl rfl trivial ?_
    refine o1 rfl (det_fieldAddr fld24_5 rfl) rfl rfl trivial ?_
    refine st1 nofun rfl t1_22 rfl rfl rfl .head rfl trivial rfl ?_
    refine be rfl ?_
    refine k_then ?_
    refine t_seq ?_
    refine b0 ?_
    refine o1 rfl (det_move rfl) rfl rfl trivial ?_
    refine o1 rfl (det_move rfl) rfl rfl trivial ?_
    refine o1 rfl (det_nilCheck rfl) rfl rfl trivial ?_
    refine o1 rfl (det_fieldAddr fld75_2 rfl) rfl rfl trivial ?_
    refine o1 rfl (det_load1 t1_3 rfl rfl (.head _) rfl) rfl rfl trivial ?_
    refine o1 rfl (det_nilCheck rfl) rfl rfl trivial ?_
    refine o1 rfl (det_fieldAddr fld75_0 rfl) rfl rfl trivial ?_
    refine o1 rfl (det_fieldAddr fld24_4 rfl) rfl rfl trivial ?_
    refine st1 nofun rfl t1_3 rfl rfl rfl .head rfl trivial rfl ?_
    refine be rfl ?_
    refine k_then ?_
    refine t_seq ?_
    refine b0 ?_
    refine o1 rfl (det_assign rfl) rfl rfl trivial ?_
    refine o1 rfl (det_assign rfl) rfl rfl trivial ?_
    refine be rfl ?_
    refine k_then ?_
    refine t_ret ?_
    refine ret_tmp2 rfl rfl rfl rfl (fun w1 hs => ?_)
    refine end_on (bs := []) (cp' := wcp p (hitR x i)) hs rfl ?_
    rw [hbit]; exact ⟨rfl, rfl⟩

/-- next. -/
theorem next_on {w : World} {F : Know} (hF : ∀ a v, F a = some v → w.cell? a = some v) {p : Nat} {x : Wn} {k l : Nat} (hd : x.d = k) (hk : k ≤ 63) (hl : x.r.ln = l) (hl2 : l ≤ 64) (hse : x.r.se < 18446744073709551616) (haway : ∀ a v, F a = some v → a.block ∉ idsO (wcp p x)) (hnd : (idsO (wcp p x)).Nodup) (hown : ∀ y ∈ (wcp p x : Own), w.heap[y.1]? = some y.2) : CallsOn Try.prog 33 [.pointer (some ⟨p, 0, none⟩)] w (wcp p x) (fun v cp1 => v = .tuple [.bool (true), .bool (true)].toArray ∧ cp1 = wcp p (nextR x k)) := by
  refine fn_on (F := F) Try.func33 rfl Try.ntmps33 rfl hF haway hnd hown ?_
  refine t_seq ?_
  refine b0 ?_
  refine o1 rfl (det_assign rfl) rfl rfl trivial ?_
  refine o1 rfl (det_assign rfl) rfl rfl trivial ?_
  refine be rfl ?_
  refine k_then ?_
  refine t_seq ?_
  refine bD mixed ?_
  refine r_seg 11 11 [] [0, 1, 2, 3, 4, 5, 6, 7, 8, 9, 10] (by kernel_rfl) ?_
  refine s1 rfl (det_move rfl) rfl rfl trivial rfl ?_
  refine s1 rfl (det_nilCheck rfl) rfl rfl trivial rfl ?_
  refine s1 rfl (det_fieldAddr fld75_0 rfl) rfl rfl trivial rfl ?_
  refine s1 rfl (det_fieldAddr fld24_5 rfl) rfl rfl trivial rfl ?_
  refine s1 rfl (det_load1 t1_22 rfl rfl (.head _) rfl) rfl rfl trivial rfl ?_
  refine s1 rfl (det_move rfl) rfl rfl trivial rfl ?_
  refine s1 rfl (det_nilCheck rfl) rfl rfl trivial rfl ?_
  refine s1 rfl (det_fieldAddr fld75_3 rfl) rfl rfl trivial rfl ?_
  refine s1 rfl (det_load1 t1_3 rfl rfl (.head _) rfl) rfl rfl trivial rfl ?_
  rw [hd]
  first | (refine s1 rfl (det_shl rfl rfl ?_) rfl rfl trivial rfl ?_; (· (first | decide | omega)))
  rw [shl_bits x.r.se k (by omega)]
  refine s1 rfl (det_assign rfl) rfl rfl trivial rfl ?_
  refine sg_nil ?_
  refine be rfl ?_
  refine k_then ?_
  refine t_seq ?_
  refine b0 ?_
  refine o1 rfl (det_move rfl) rfl rfl trivial ?_
  refine oOn (cp := [_]) (rest := []) nofun rfl hb36 rfl rfl rfl trivial (fun w1 hs => (begin_on hs.know hs.away hs.nodup hs.own)) (fun v cp1 hv hi1 => ?_)
  obtain ⟨rfl, rfl⟩ := hv
  refine be rfl ?_
  refine k_then ?_
  refine t_seq ?_
  refine bD mixed ?_
  refine r_seg 18 17 [] [0, 1, 2, 3, 4, 5, 6, 7, 8, 9, 10, 11, 12, 13, 14, 15, 16] (by kernel_rfl) ?_
  refine s1 rfl (det_move rfl) rfl rfl trivial rfl ?_
  refine s1 rfl (det_nilCheck rfl) rfl rfl trivial rfl ?_
  refine s1 rfl (det_fieldAddr fld75_0 rfl) rfl rfl trivial rfl ?_
  refine s1 rfl (det_fieldAddr fld24_5 rfl) rfl rfl trivial rfl ?_
  refine s1 rfl (det_load1 t1_22 rfl rfl (.head _) rfl) rfl rfl trivial rfl ?_
  refine s1 rfl (det_move rfl) rfl rfl trivial rfl ?_
  refine s1 rfl (det_move rfl) rfl rfl trivial rfl ?_
  refine s1 rfl (det_nilCheck rfl) rfl rfl trivial rfl ?_
  refine s1 rfl (det_fieldAddr fld75_0 rfl) rfl rfl trivial rfl ?_
  refine s1 rfl (det_fieldAddr fld24_0 rfl) rfl rfl trivial rfl ?_
  refine s1 rfl (det_load1 t1_3 rfl rfl (.head _) rfl) rfl rfl trivial rfl ?_
  refine s1 rfl (det_call hb25 rfl rfl (fun w1 hs => mask_ok hs.know (by show 0 ≤ x.r.ln ∧ x.r.ln ≤ 64; omega))) rfl rfl trivial rfl ?_
  rw [show (beginR x).r.ln.toNat = l by show x.r.ln.toNat = l; omega]
  refine s1 rfl (det_and rfl rfl) rfl rfl trivial rfl ?_
  rw [shift_and x.r.se k l hl2]
  refine s1 rfl (det_or rfl rfl) rfl rfl trivial rfl ?_
  rw [show ((beginR x).r.se : Int) = 1 from rfl, shift_or x.r.se k l hl2]
  refine s1 rfl (det_nilCheck rfl) rfl rfl trivial rfl ?_
  refine s1 rfl (det_fieldAddr fld75_0 rfl) rfl rfl trivial rfl ?_
  refine s1 rfl (det_fieldAddr fld24_5 rfl) rfl rfl trivial rfl ?_
  refine sg_nil ?_
  refine st1 (fun _ => by kernel_rfl) rfl t1_22 rfl rfl rfl .head rfl trivial rfl ?_
  refine be rfl ?_
  refine k_then ?_
  refine t_seq ?_
  refine b0 ?_
  refine o1 rfl (det_assign rfl) rfl rfl trivial ?_
  refine o1 rfl (det_assign rfl) rfl rfl trivial ?_
  refine be rfl ?_
  refine k_then ?_
  refine t_ret ?_
  refine ret_tmp2 rfl rfl rfl rfl (fun w1 hs => ?_)
  refine end_on (bs := []) (cp' := wcp p { beginR x with r := { (beginR x).r with se := shiftS x.r.se k l } }) hs rfl ?_
  have hll : l = x.r.ln.toNat := by omega
  exact ⟨rfl, by rw [hll]; rfl⟩

end Go.Proofs.Rc
