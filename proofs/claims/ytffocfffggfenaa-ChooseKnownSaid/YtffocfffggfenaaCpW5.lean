/-
  Walks through layers 36, 37 and 38 and their references.
-/
import Derived.Test.YtffocfffggfenaaCpW4
import Derived.Test.YtffocfffggfenaaGtPlain2ToChPlain
namespace Go.Proofs.Cp
open Go Go.Eng Go.Gt Go.Proofs.Gt
set_option maxRecDepth 4000

/-- open's closure. -/
theorem openC_on {w : World} {F : Know} (hF : ∀ a v, F a = some v → w.cell? a = some v) {q4 q7 : Nat} {rest : Own} {e1 e2 b cl x : Int} (he : (0 ≤ e1 ∧ e1 ≤ 255) ∧ 1 ≤ e2 ∧ e2 ≤ 9600000) (hb : -9000000000000 ≤ b ∧ b ≤ 9000000000000) (hcl : 0 ≤ cl ∧ cl ≤ 7) (haway : ∀ a v, F a = some v → a.block ∉ idsO ((q7, .cells [.int .i64 (x)].toArray 3 (0, 0)) :: (q4, .cells [.int .i64 (cl)].toArray 3 (0, 0)) :: rest)) (hnd : (idsO ((q7, .cells [.int .i64 (x)].toArray 3 (0, 0)) :: (q4, .cells [.int .i64 (cl)].toArray 3 (0, 0)) :: rest)).Nodup) (hown : ∀ y ∈ ((q7, .cells [.int .i64 (x)].toArray 3 (0, 0)) :: (q4, .cells [.int .i64 (cl)].toArray 3 (0, 0)) :: rest : Own), w.heap[y.1]? = some y.2) : CallsOn Try.prog 109 [.agg [.int .i64 e1, .int .i64 e2].toArray, .int .i64 b, .pointer (some ⟨q4, 0, none⟩), .pointer (some ⟨q7, 0, none⟩)] w ((q7, .cells [.int .i64 (x)].toArray 3 (0, 0)) :: (q4, .cells [.int .i64 (cl)].toArray 3 (0, 0)) :: rest) (fun v cp1 => v = .bool (bitE e1 cl) ∧ cp1 = (q7, .cells [.int .i64 (if bitE e1 cl then b + e2 else x)].toArray 3 (0, 0)) :: (q4, .cells [.int .i64 (cl)].toArray 3 (0, 0)) :: rest) := by
  refine fn_on (F := F) Try.func109 rfl Try.ntmps109 rfl hF haway hnd hown ?_
  refine t_seq ?_
  refine b0 ?_
  refine om1 rfl (new_boxN rfl) rfl rfl trivial (fun p4 => ?_)
  refine o1 rfl (det_assign rfl) rfl rfl trivial ?_
  refine be rfl ?_
  refine k_then ?_
  refine t_seq ?_
  refine t_seq ?_
  refine b0 ?_
  refine o1 rfl (det_fieldAddr fld59_0 rfl) rfl rfl trivial ?_
  refine o1 rfl (det_load1 t1_3 rfl rfl (.head _) rfl) rfl rfl trivial ?_
  refine o1 rfl (det_load1 t1_3 rfl rfl (.tail _ (.tail _ (.head _))) rfl) rfl rfl trivial ?_
  first | (refine o1 rfl (det_shr rfl rfl ?_) rfl rfl trivial ?_; (· (first | decide | omega)))
  refine o1 rfl (det_and rfl rfl) rfl rfl trivial ?_
  refine o1 rfl (det_eql rfl rfl) rfl rfl trivial ?_
  refine be rfl ?_
  refine k_then ?_
  refine t_condP beq_iff_eq rfl (fun hb => ?_) (fun hb => ?_)
  ·
    refine t_seq ?_
    refine b0 ?_
    refine o1 rfl (det_assign rfl) rfl rfl trivial ?_
    refine be rfl ?_
    refine k_then ?_
    refine t_ret (k_thenR (?_))
    refine ret_tmp rfl rfl rfl (fun w1 hs => ?_)
    have hbit := (bitE_and he.1 hcl).1 hb
    refine end_on (bs := [_]) hs rfl ⟨by rw [hbit], by rw [hbit]; rfl⟩
  ·
    refine t_skip ?_
    refine k_then ?_
    refine t_seq ?_
    refine b0 ?_
    refine o1 rfl (det_move rfl) rfl rfl trivial ?_
    refine o1 rfl (det_fieldAddr fld59_1 rfl) rfl rfl trivial ?_
    refine o1 rfl (det_load1 t1_3 rfl rfl (.head _) rfl) rfl rfl trivial ?_
    first | (refine o1 rfl (det_addI rfl rfl ?_) rfl rfl trivial ?_; (· omega)) | refine o1 rfl (det_add rfl rfl) rfl rfl trivial ?_
    refine st1 nofun rfl t1_3 rfl rfl rfl (.tail .head) rfl trivial rfl ?_
    refine be rfl ?_
    refine k_then ?_
    refine t_seq ?_
    refine b0 ?_
    refine o1 rfl (det_assign rfl) rfl rfl trivial ?_
    refine be rfl ?_
    refine k_then ?_
    refine t_ret ?_
    refine ret_tmp rfl rfl rfl (fun w1 hs => ?_)
    have hbit : bitE e1 cl = true := by
      cases h : bitE e1 cl with
      | true => rfl
      | false => exact absurd ((bitE_and he.1 hcl).2 h) hb
    refine end_on (bs := [_]) hs rfl ⟨by rw [hbit], by rw [hbit]; rfl⟩

/-- gates.open. -/
theorem open_ok {w : World} {F : Know} (hF : ∀ a v, F a = some v → w.cell? a = some v) {A : Option Addr} {n cap : Nat} {es : Ents} {cyc : Int} (hE : EntK F A n es) (hG : okG es cyc = true) (cl : Int) (hcl : 0 ≤ cl ∧ cl ≤ 7) (t : Int) (ht : -1099511627776 * 4 ≤ t ∧ t ≤ 1099511627776 * 4) : Pure Try.prog 85 [.agg [.slice A n cap, .int .i64 cyc].toArray, .int .i64 cl, .int .i64 t] w (.int .i64 (spanE es cyc cl t)) := by
  obtain ⟨hl1, hl2, hall0, hsum, hc9, hc1⟩ := okG_parts hG
  replace hc1 : 0 < cyc := by omega

  refine fn_pure (F := F) Try.func85 rfl Try.ntmps85 rfl hF ?_
  refine t_seq ?_
  refine b0 ?_
  refine om1 rfl (new_boxN rfl) rfl rfl trivial (fun p3 => ?_)
  refine om1 rfl (new_box1 rfl rfl) rfl rfl trivial (fun p4 => ?_)
  refine o1 rfl (det_assign rfl) rfl rfl trivial ?_
  refine be rfl ?_
  refine k_then ?_
  refine t_seq ?_
  refine b0 ?_
  refine o1 rfl (det_move rfl) rfl rfl trivial ?_
  refine om1 rfl (new_alloc z3) rfl rfl trivial (fun p7 => ?_)
  refine st1 nofun rfl t1_3 rfl rfl rfl .head rfl trivial rfl ?_
  refine be rfl ?_
  refine k_then ?_
  refine t_seq ?_
  refine t_seq ?_
  refine b0 ?_
  refine o1 rfl (det_loadN tN24 rfl rfl (.tail _ (.tail _ (.head _))) rfl) rfl rfl trivial ?_
  refine o1 rfl (det_move rfl) rfl rfl trivial ?_
  refine o1 rfl (det_makeFunc rfl rfl) rfl rfl trivial ?_
  refine oOn (cp := [_, _, _]) (rest := []) nofun rfl hb92 rfl rfl rfl trivial (fun w1 hs => (walk_on (R := fun i cp => cp = [(p7, .cells [.int .i64 (fst0 es cyc t i)].toArray 3 (0, 0)), (p4, .cells [.int .i64 (cl)].toArray 3 (0, 0)), (p3, .cells [.slice A n cap, .int .i64 cyc].toArray 24 (0, 0))] ∧ (∀ j, j < i → bitE (ent es (loc es cyc t).1 j).1 cl = true)) (Ro := fun i cp => cp = [(p7, .cells [.int .i64 (fst0 es cyc t i)].toArray 3 (0, 0)), (p4, .cells [.int .i64 (cl)].toArray 3 (0, 0)), (p3, .cells [.slice A n cap, .int .i64 cyc].toArray 24 (0, 0))] ∧ (∀ j, j < i → bitE (ent es (loc es cyc t).1 j).1 cl = true) ∧ bitE (ent es (loc es cyc t).1 i).1 cl = false) hs.know hE hG t ht hs.away hs.nodup hs.own hb109 ⟨rfl, fun j hj => absurd hj (Nat.not_lt_zero _)⟩ (by
      intro i hi cp hR hids w2 hk ho
      obtain ⟨rfl, hbits⟩ := hR
      have hen := ent_ok hall0 hl1 (loc es cyc t).1 i
      have hrs := rs_bounds hall0 hl1 (loc es cyc t).1 i
      have hyb := loc_bounds hG t
      have hbg : beg es cyc t i = t - (loc es cyc t).2 + rs es (loc es cyc t).1 i := rfl
      refine (openC_on (x := fst0 es cyc t i) (rest := [_]) hk ⟨⟨hen.1, hen.2.1⟩, hen.2.2⟩ (by omega) hcl hs.away hs.nodup ho).mono ?_
      rintro v cp' - ⟨rfl, rfl⟩
      refine ⟨_, rfl, fun hb => ⟨by rw [if_pos hb, ← beg_succ, fst0_succ], fun j hj => ?_⟩, fun hb => ⟨by rw [if_neg (by simp [hb])], hbits, hb⟩⟩
      by_cases e : j = i
      · rw [e]; exact hb
      · exact hbits j (by omega)))) (fun v cp1 hv hi1 => ?_)
  obtain ⟨b, rfl, hT, hN⟩ := hv
  refine be rfl ?_
  refine k_then ?_
  refine t_condP Iff.rfl rfl (fun hb => ?_) (fun hb => ?_)
  ·
    refine t_seq ?_
    refine b0 ?_
    refine o1 rfl (det_assign rfl) rfl rfl trivial ?_
    refine be rfl ?_
    refine k_then ?_
    refine t_ret (k_thenR (?_))
    refine ret_tmp rfl rfl rfl (fun w1 hs => ?_)
    refine ⟨?_, hs.keep⟩
    rw [spanE_all (hT hb).2]
  ·
    obtain ⟨i, hi, rfl, hbits, hno⟩ := hN (by simpa using hb)
    have hen := ent_ok hall0 hl1 (loc es cyc t).1 i
    have hrs := rs_bounds hall0 hl1 (loc es cyc t).1 i
    have hyb := loc_bounds hG t
    have hbg : beg es cyc t i = t - (loc es cyc t).2 + rs es (loc es cyc t).1 i := rfl
    have hf : fst0 es cyc t i = t ∨ fst0 es cyc t i = beg es cyc t i := by unfold fst0; split <;> simp
    refine t_skip ?_
    refine k_then ?_
    refine t_seq ?_
    refine b0 ?_
    refine o1 rfl (det_load1 t1_3 rfl rfl (.head _) rfl) rfl rfl trivial ?_
    refine o1 rfl (det_move rfl) rfl rfl trivial ?_
    first | (refine o1 rfl (det_subI rfl rfl ?_) rfl rfl trivial ?_; (· omega)) | refine o1 rfl (det_sub rfl rfl) rfl rfl trivial ?_
    refine o1 rfl (det_assign rfl) rfl rfl trivial ?_
    refine be rfl ?_
    refine k_then ?_
    refine t_ret ?_
    refine ret_tmp rfl rfl rfl (fun w1 hs => ?_)
    exact ⟨by rw [spanE_at hi hbits hno], hs.keep⟩

end Go.Proofs.Cp
