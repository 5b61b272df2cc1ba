/-
  Walks through layer 40 and its reference.
-/
import Derived.Test.YtichjhggoioenaaRcW5
namespace Go.Proofs.Rc
open Go Go.Eng Go.Rc
set_option maxRecDepth 4000

/-- begin. -/
theorem begin_on {w : World} {F : Know} (hF : ∀ a v, F a = some v → w.cell? a = some v) {p : Nat} {x : Wn} (haway : ∀ a v, F a = some v → a.block ∉ idsO (wcp p x)) (hnd : (idsO (wcp p x)).Nodup) (hown : ∀ y ∈ (wcp p x : Own), w.heap[y.1]? = some y.2) : CallsOn Try.prog 36 [.pointer (some ⟨p, 0, none⟩)] w (wcp p x) (fun v cp1 => v = .tuple #[] ∧ cp1 = wcp p (beginR x)) := by
  refine fn_on (F := F) Try.func36 rfl Try.ntmps36 rfl hF haway hnd hown ?_
  refine bD mixed ?_
  refine r_force 1 15 (by kernel_rfl) ?_
  refine r_force 2 15 (by kernel_rfl) ?_
  refine r_force 3 15 (by kernel_rfl) ?_
  refine r_seg 28 15 [] [0, 1, 2, 3, 4, 5, 6, 7, 8, 9, 10, 11, 12, 13, 14] (by kernel_rfl) ?_
  refine s1 rfl (det_move rfl) rfl rfl trivial rfl ?_
  refine s1 rfl (det_move rfl) rfl rfl trivial rfl ?_
  refine s1 rfl (det_move rfl) rfl rfl trivial rfl ?_
  refine s1 rfl (det_move rfl) rfl rfl trivial rfl ?_
  refine s1 rfl (det_move rfl) rfl rfl trivial rfl ?_
  refine s1 rfl (det_nilCheck rfl) rfl rfl trivial rfl ?_
  refine s1 rfl (det_fieldAddr fld75_1 rfl) rfl rfl trivial rfl ?_
  refine s1 rfl (det_load1 t1_3 rfl rfl (.head _) rfl) rfl rfl trivial rfl ?_
  refine s1 rfl (det_move rfl) rfl rfl trivial rfl ?_
  refine s1 rfl (det_nilCheck rfl) rfl rfl trivial rfl ?_
  refine s1 rfl (det_fieldAddr fld75_2 rfl) rfl rfl trivial rfl ?_
  refine s1 rfl (det_load1 t1_3 rfl rfl (.head _) rfl) rfl rfl trivial rfl ?_
  refine s1 rfl (det_nilCheck rfl) rfl rfl trivial rfl ?_
  refine s1 rfl (det_fieldAddr fld75_0 rfl) rfl rfl trivial rfl ?_
  refine s1 rfl (det_fieldAddr fld24_2 rfl) rfl rfl trivial rfl ?_
  refine sg_nil ?_
  refine st1 (fun _ => by kernel_rfl) rfl t1_4 rfl rfl rfl .head rfl trivial rfl ?_
  refine r_seg 28 19 [] [16, 17, 18] (by kernel_rfl) ?_
  refine s1 rfl (det_nilCheck rfl) rfl rfl trivial rfl ?_
  refine s1 rfl (det_fieldAddr fld75_0 rfl) rfl rfl trivial rfl ?_
  refine s1 rfl (det_fieldAddr fld24_3 rfl) rfl rfl trivial rfl ?_
  refine sg_nil ?_
  refine st1 (fun _ => by kernel_rfl) rfl t1_3 rfl rfl rfl .head rfl trivial rfl ?_
  refine r_seg 28 23 [] [20, 21, 22] (by kernel_rfl) ?_
  refine s1 rfl (det_nilCheck rfl) rfl rfl trivial rfl ?_
  refine s1 rfl (det_fieldAddr fld75_0 rfl) rfl rfl trivial rfl ?_
  refine s1 rfl (det_fieldAddr fld24_4 rfl) rfl rfl trivial rfl ?_
  refine sg_nil ?_
  refine st1 (fun _ => by kernel_rfl) rfl t1_3 rfl rfl rfl .head rfl trivial rfl ?_
  refine r_seg 28 27 [] [24, 25, 26] (by kernel_rfl) ?_
  refine s1 rfl (det_nilCheck rfl) rfl rfl trivial rfl ?_
  refine s1 rfl (det_fieldAddr fld75_0 rfl) rfl rfl trivial rfl ?_
  refine s1 rfl (det_fieldAddr fld24_5 rfl) rfl rfl trivial rfl ?_
  refine sg_nil ?_
  refine st1 (fun _ => by kernel_rfl) rfl t1_22 rfl rfl rfl .head rfl trivial rfl ?_
  refine be rfl ?_
  refine np ?_
  refine np ?_
  refine np ?_
  refine end_none rfl rfl (fun w1 hs => ?_)
  refine end_on (bs := []) hs rfl ⟨rfl, rfl⟩

/-- fresh. -/
theorem fresh_on {w : World} {F : Know} (hF : ∀ a v, F a = some v → w.cell? a = some v) {p : Nat} {x : Wn} (hb1 : -1125899906842624 ≤ x.t ∧ x.t ≤ 1125899906842624) (hb2 : -1125899906842624 ≤ x.r.at_ ∧ x.r.at_ ≤ 1125899906842624) (haway : ∀ a v, F a = some v → a.block ∉ idsO (wcp p x)) (hnd : (idsO (wcp p x)).Nodup) (hown : ∀ y ∈ (wcp p x : Own), w.heap[y.1]? = some y.2) : CallsOn Try.prog 30 [.pointer (some ⟨p, 0, none⟩)] w (wcp p x) (fun v cp1 => v = .tuple [.bool (freshB x), .bool (freshB x)].toArray ∧ cp1 = wcp p (if freshB x then beginR x else x)) := by
  refine fn_on (F := F) Try.func30 rfl Try.ntmps30 rfl hF haway hnd hown ?_
  refine t_seq ?_
  refine b0 ?_
  refine o1 rfl (det_assign rfl) rfl rfl trivial ?_
  refine o1 rfl (det_assign rfl) rfl rfl trivial ?_
  refine be rfl ?_
  refine k_then ?_
  refine t_seq ?_
  refine t_seq ?_
  refine t_merge (env0 := [(0, _), (2, _), (3, _)]) ⟨rfl, rfl, rfl, trivial⟩ 27 (.bool (decide (freshB x = false))) ?_ (fun hK => ?_)
  ·
    refine k_then ?_
    refine t_condP decide_eq_true_iff rfl (fun hb => ?_) (fun hb => ?_)
    ·
      have hf : freshB x = false := by simpa using hb
      refine t_seq ?_
      refine b0 ?_
      refine o1 rfl (det_assign rfl) rfl rfl trivial ?_
      refine o1 rfl (det_assign rfl) rfl rfl trivial ?_
      refine be rfl ?_
      refine k_then ?_
      refine t_ret (k_thenR (?_))
      refine ret_tmp2 rfl rfl rfl rfl (fun w1 hs => ?_)
      refine end_on (bs := []) hs rfl ?_
      rw [hf]; exact ⟨rfl, rfl⟩
    ·
      have hf : freshB x = true := by simpa using hb
      refine t_skip ?_
      refine k_then ?_
      refine t_seq ?_
      refine b0 ?_
      refine o1 rfl (det_move rfl) rfl rfl trivial ?_
      refine oOn (cp := [_]) (rest := []) nofun rfl hb36 rfl rfl rfl trivial (fun w1 hs => (begin_on hs.know hs.away hs.nodup hs.own)) (fun v cp1 hv hi1 => ?_)
      obtain ⟨rfl, rfl⟩ := hv
      refine be rfl ?_
      refine k_then ?_
      refine t_seq ?_
      refine b0 ?_
      refine o1 rfl (det_assign rfl) rfl rfl trivial ?_
      refine o1 rfl (det_assign rfl) rfl rfl trivial ?_
      refine be rfl ?_
      refine k_then ?_
      refine t_ret ?_
      refine ret_tmp2 rfl rfl rfl rfl (fun w1 hs => ?_)
      refine end_on (bs := []) (cp' := wcp p (beginR x)) hs rfl ?_
      rw [hf]; exact ⟨rfl, rfl⟩
  ·
    refine bD mixed ?_
    refine r_seg 24 24 [] [0, 1, 2, 3, 4, 5, 6, 7, 8, 9, 10, 11, 12, 13, 14, 15, 16, 17, 18, 19, 20, 21, 22, 23] (by kernel_rfl) ?_
    refine s1 rfl (det_move rfl) rfl rfl trivial rfl ?_
    refine s1 rfl (det_nilCheck rfl) rfl rfl trivial rfl ?_
    refine s1 rfl (det_fieldAddr fld75_0 rfl) rfl rfl trivial rfl ?_
    refine s1 rfl (det_fieldAddr fld24_2 rfl) rfl rfl trivial rfl ?_
    refine s1 rfl (det_load1 t1_4 rfl rfl (.head _) rfl) rfl rfl trivial rfl ?_
    refine s1 rfl (det_not rfl) rfl rfl trivial rfl ?_
    refine s2P not_iff_false rfl (det_move rfl) rfl rfl trivial rfl (fun hb => ?_) (fun hb => ?_)
    ·
      refine s1 rfl (det_move rfl) rfl rfl ⟨_, rfl, rfl⟩ rfl ?_
      refine s1 rfl (det_nilCheck rfl) rfl rfl ⟨_, rfl, rfl⟩ rfl ?_
      refine s1 rfl (det_fieldAddr fld75_2 rfl) rfl rfl ⟨_, rfl, rfl⟩ rfl ?_
      refine s1 rfl (det_load1 t1_3 rfl rfl (.head _) rfl) rfl rfl ⟨_, rfl, rfl⟩ rfl ?_
      refine s1 rfl (det_move rfl) rfl rfl ⟨_, rfl, rfl⟩ rfl ?_
      refine s1 rfl (det_nilCheck rfl) rfl rfl ⟨_, rfl, rfl⟩ rfl ?_
      refine s1 rfl (det_fieldAddr fld75_0 rfl) rfl rfl ⟨_, rfl, rfl⟩ rfl ?_
      refine s1 rfl (det_fieldAddr fld24_4 rfl) rfl rfl ⟨_, rfl, rfl⟩ rfl ?_
      refine s1 rfl (det_load1 t1_3 rfl rfl (.head _) rfl) rfl rfl ⟨_, rfl, rfl⟩ rfl ?_
      first | (refine s1 rfl (det_subI rfl rfl ?_) rfl rfl ⟨_, rfl, rfl⟩ rfl ?_; (· omega)) | refine s1 rfl (det_sub rfl rfl) rfl rfl ⟨_, rfl, rfl⟩ rfl ?_
      refine s1 rfl (det_move rfl) rfl rfl ⟨_, rfl, rfl⟩ rfl ?_
      refine s1 rfl (det_nilCheck rfl) rfl rfl ⟨_, rfl, rfl⟩ rfl ?_
      refine s1 rfl (det_fieldAddr fld75_0 rfl) rfl rfl ⟨_, rfl, rfl⟩ rfl ?_
      refine s1 rfl (det_fieldAddr fld24_1 rfl) rfl rfl ⟨_, rfl, rfl⟩ rfl ?_
      refine s1 rfl (det_load1 t1_3 rfl rfl (.head _) rfl) rfl rfl ⟨_, rfl, rfl⟩ rfl ?_
      refine s1 rfl (det_leq rfl rfl) rfl rfl ⟨_, rfl, rfl⟩ rfl ?_
      refine s1 rfl (det_pickT rfl rfl) rfl rfl trivial rfl ?_
      refine sg_nil ?_
      refine be rfl ?_
      refine tk_drop ?_ (.refl _) hK
      exact ⟨(mb rfl (by grind [freshB])), rfl, rfl, rfl, trivial⟩
    ·
      refine sn rfl rfl rfl ⟨_, rfl, .inl rfl⟩ ?_
      refine sn rfl rfl rfl ⟨_, rfl, .inl rfl⟩ ?_
      refine sn rfl rfl rfl ⟨_, rfl, .inl rfl⟩ ?_
      refine sn rfl rfl rfl ⟨_, rfl, .inl rfl⟩ ?_
      refine sn rfl rfl rfl ⟨_, rfl, .inl rfl⟩ ?_
      refine sn rfl rfl rfl ⟨_, rfl, .inl rfl⟩ ?_
      refine sn rfl rfl rfl ⟨_, rfl, .inl rfl⟩ ?_
      refine sn rfl rfl rfl ⟨_, rfl, .inl rfl⟩ ?_
      refine sn rfl rfl rfl ⟨_, rfl, .inl rfl⟩ ?_
      refine sn rfl rfl rfl ⟨_, rfl, .inl rfl⟩ ?_
      refine sn rfl rfl rfl ⟨_, rfl, .inl rfl⟩ ?_
      refine sn rfl rfl rfl ⟨_, rfl, .inl rfl⟩ ?_
      refine sn rfl rfl rfl ⟨_, rfl, .inl rfl⟩ ?_
      refine sn rfl rfl rfl ⟨_, rfl, .inl rfl⟩ ?_
      refine sn rfl rfl rfl ⟨_, rfl, .inl rfl⟩ ?_
      refine sn rfl rfl rfl ⟨_, rfl, .inl rfl⟩ ?_
      refine s1 rfl (det_pickF rfl rfl) rfl rfl trivial rfl ?_
      refine sg_nil ?_
      refine be rfl ?_
      refine tk_drop ?_ (.refl _) hK
      exact ⟨(mb rfl (by grind [freshB])), rfl, rfl, rfl, trivial⟩

/-- far. -/
theorem far_on {w : World} {F : Know} (hF : ∀ a v, F a = some v → w.cell? a = some v) {p : Nat} {x : Wn} (hla : 0 ≤ x.r.la ∧ x.r.la ≤ 65535) (hnn : 0 ≤ x.n ∧ x.n ≤ 65535) (hln : 1 ≤ x.r.ln ∧ x.r.ln ≤ 64) (haway : ∀ a v, F a = some v → a.block ∉ idsO (wcp p x)) (hnd : (idsO (wcp p x)).Nodup) (hown : ∀ y ∈ (wcp p x : Own), w.heap[y.1]? = some y.2) : CallsOn Try.prog 31 [.pointer (some ⟨p, 0, none⟩)] w (wcp p x) (fun v cp1 => v = .tuple [.bool (farB x), .bool (false)].toArray ∧ cp1 = wcp p ({ x with d := delta x.r.la x.n })) := by
  refine fn_on (F := F) Try.func31 rfl Try.ntmps31 rfl hF haway hnd hown ?_
  refine t_seq ?_
  refine b0 ?_
  refine o1 rfl (det_assign rfl) rfl rfl trivial ?_
  refine o1 rfl (det_assign rfl) rfl rfl trivial ?_
  refine be rfl ?_
  refine k_then ?_
  refine t_seq ?_
  refine bD mixed ?_
  refine r_force 13 16 (by kernel_rfl) ?_
  refine r_seg 17 16 [] [0, 1, 2, 3, 4, 5, 6, 7, 8, 9, 10, 11, 12, 13, 14, 15] (by kernel_rfl) ?_
  refine s1 rfl (det_move rfl) rfl rfl trivial rfl ?_
  refine s1 rfl (det_move rfl) rfl rfl trivial rfl ?_
  refine s1 rfl (det_nilCheck rfl) rfl rfl trivial rfl ?_
  refine s1 rfl (det_fieldAddr fld75_0 rfl) rfl rfl trivial rfl ?_
  refine s1 rfl (det_fieldAddr fld24_3 rfl) rfl rfl trivial rfl ?_
  refine s1 rfl (det_load1 t1_3 rfl rfl (.head _) rfl) rfl rfl trivial rfl ?_
  refine s1 rfl (det_move rfl) rfl rfl trivial rfl ?_
  refine s1 rfl (det_nilCheck rfl) rfl rfl trivial rfl ?_
  refine s1 rfl (det_fieldAddr fld75_1 rfl) rfl rfl trivial rfl ?_
  refine s1 rfl (det_load1 t1_3 rfl rfl (.head _) rfl) rfl rfl trivial rfl ?_
  refine s1 rfl (det_call hb37 rfl rfl (fun w1 hs => dlt_at hs.know hla hnn)) rfl rfl trivial rfl ?_
  refine s1 rfl (det_move rfl) rfl rfl trivial rfl ?_
  refine s1 rfl (det_extract rfl rfl) rfl rfl trivial rfl ?_
  refine s1 rfl (det_extract rfl rfl) rfl rfl trivial rfl ?_
  refine s1 rfl (det_nilCheck rfl) rfl rfl trivial rfl ?_
  refine s1 rfl (det_fieldAddr fld75_3 rfl) rfl rfl trivial rfl ?_
  refine sg_nil ?_
  refine st1 (fun _ => by kernel_rfl) rfl t1_3 rfl rfl rfl .head rfl trivial rfl ?_
  refine be rfl ?_
  refine np ?_
  refine k_then ?_
  refine t_seq ?_
  refine bD mixed ?_
  refine r_seg 25 25 [] [0, 1, 2, 3, 4, 5, 6, 7, 8, 9, 10, 11, 12, 13, 14, 15, 16, 17, 18, 19, 20, 21, 22, 23, 24] (by kernel_rfl) ?_
  refine s1 rfl (det_move rfl) rfl rfl trivial rfl ?_
  refine s1 rfl (det_nilCheck rfl) rfl rfl trivial rfl ?_
  refine s1 rfl (det_fieldAddr fld75_3 rfl) rfl rfl trivial rfl ?_
  refine s1 rfl (det_load1 t1_3 rfl rfl (.head _) rfl) rfl rfl trivial rfl ?_
  refine s1 rfl (det_move rfl) rfl rfl trivial rfl ?_
  refine s1 rfl (det_nilCheck rfl) rfl rfl trivial rfl ?_
  refine s1 rfl (det_fieldAddr fld75_0 rfl) rfl rfl trivial rfl ?_
  refine s1 rfl (det_fieldAddr fld24_0 rfl) rfl rfl trivial rfl ?_
  refine s1 rfl (det_load1 t1_3 rfl rfl (.head _) rfl) rfl rfl trivial rfl ?_
  first | (refine s1 rfl (det_negI rfl ?_) rfl rfl trivial rfl ?_; (· omega)) | refine s1 rfl (det_neg rfl) rfl rfl trivial rfl ?_
  refine s1 rfl (det_leq rfl rfl) rfl rfl trivial rfl ?_
  refine s2P decide_eq_true_iff rfl (det_move rfl) rfl rfl trivial rfl (fun hb => ?_) (fun hb => ?_)
  ·
    refine sn rfl rfl rfl ⟨_, rfl, .inl rfl⟩ ?_
    refine sn rfl rfl rfl ⟨_, rfl, .inl rfl⟩ ?_
    refine sn rfl rfl rfl ⟨_, rfl, .inl rfl⟩ ?_
    refine sn rfl rfl rfl ⟨_, rfl, .inl rfl⟩ ?_
    refine sn rfl rfl rfl ⟨_, rfl, .inl rfl⟩ ?_
    refine sn rfl rfl rfl ⟨_, rfl, .inl rfl⟩ ?_
    refine sn rfl rfl rfl ⟨_, rfl, .inl rfl⟩ ?_
    refine sn rfl rfl rfl ⟨_, rfl, .inl rfl⟩ ?_
    refine sn rfl rfl rfl ⟨_, rfl, .inl rfl⟩ ?_
    refine sn rfl rfl rfl ⟨_, rfl, .inl rfl⟩ ?_
    refine s1 rfl (det_pickT rfl rfl) rfl rfl trivial rfl ?_
    refine s1 rfl (det_assign rfl) rfl rfl trivial rfl ?_
    refine s1 rfl (det_assign rfl) rfl rfl trivial rfl ?_
    refine sg_nil ?_
    refine be rfl ?_
    refine k_then ?_
    refine t_ret ?_
    refine ret_tmp2 rfl rfl rfl rfl (fun w1 hs => ?_)
    refine end_on (bs := []) (cp' := wcp p { x with d := delta x.r.la x.n }) hs rfl ?_
    refine ⟨by grind [farB], rfl⟩
  ·
    refine s1 rfl (det_move rfl) rfl rfl ⟨_, rfl, rfl⟩ rfl ?_
    refine s1 rfl (det_nilCheck rfl) rfl rfl ⟨_, rfl, rfl⟩ rfl ?_
    refine s1 rfl (det_fieldAddr fld75_3 rfl) rfl rfl ⟨_, rfl, rfl⟩ rfl ?_
    refine s1 rfl (det_load1 t1_3 rfl rfl (.head _) rfl) rfl rfl ⟨_, rfl, rfl⟩ rfl ?_
    refine s1 rfl (det_move rfl) rfl rfl ⟨_, rfl, rfl⟩ rfl ?_
    refine s1 rfl (det_nilCheck rfl) rfl rfl ⟨_, rfl, rfl⟩ rfl ?_
    refine s1 rfl (det_fieldAddr fld75_0 rfl) rfl rfl ⟨_, rfl, rfl⟩ rfl ?_
    refine s1 rfl (det_fieldAddr fld24_0 rfl) rfl rfl ⟨_, rfl, rfl⟩ rfl ?_
    refine s1 rfl (det_load1 t1_3 rfl rfl (.head _) rfl) rfl rfl ⟨_, rfl, rfl⟩ rfl ?_
    refine s1 rfl (det_geq rfl rfl) rfl rfl ⟨_, rfl, rfl⟩ rfl ?_
    refine s1 rfl (det_pickF rfl rfl) rfl rfl trivial rfl ?_
    refine s1 rfl (det_assign rfl) rfl rfl trivial rfl ?_
    refine s1 rfl (det_assign rfl) rfl rfl trivial rfl ?_
    refine sg_nil ?_
    refine be rfl ?_
    refine k_then ?_
    refine t_ret ?_
    refine ret_tmp2 rfl rfl rfl rfl (fun w1 hs => ?_)
    refine end_on (bs := []) (cp' := wcp p { x with d := delta x.r.la x.n }) hs rfl ?_
    refine ⟨by grind [farB], rfl⟩

end Go.Proofs.Rc
