/-
  Walks through layers 36, 37 and 38 and their references.
-/
import Derived.Test.YtffocfffggfenaaCpW6
namespace Go.Proofs.Cp
open Go Go.Eng Go.Gt Go.Proofs.Gt
set_option maxRecDepth 4000

/-- Fit's closure. -/
theorem FitC_on {w : World} {F : Know} (hF : ∀ a v, F a = some v → w.cell? a = some v) {A : Option Addr} {n cap : Nat} {es : Ents} {cyc : Int} (hE : EntK F A n es) (hG : okG es cyc = true) {q11 q7 q5 q4 : Nat} {rest : Own} {e1 e2 b x cl lg : Int} (hcl : 0 ≤ cl ∧ cl ≤ 7) (hb : -4300000000000 ≤ b ∧ b ≤ 4300000000000) (he : 1 ≤ e2 ∧ e2 ≤ 9600000) (haway : ∀ a v, F a = some v → a.block ∉ idsO ((q11, .cells [.int .i64 (x)].toArray 3 (0, 0)) :: (q7, .cells [.int .i64 (lg)].toArray 3 (0, 0)) :: (q5, .cells [.int .i64 (cl)].toArray 3 (0, 0)) :: (q4, .cells [.slice A n cap, .int .i64 cyc].toArray 24 (0, 0)) :: rest)) (hnd : (idsO ((q11, .cells [.int .i64 (x)].toArray 3 (0, 0)) :: (q7, .cells [.int .i64 (lg)].toArray 3 (0, 0)) :: (q5, .cells [.int .i64 (cl)].toArray 3 (0, 0)) :: (q4, .cells [.slice A n cap, .int .i64 cyc].toArray 24 (0, 0)) :: rest)).Nodup) (hown : ∀ y ∈ ((q11, .cells [.int .i64 (x)].toArray 3 (0, 0)) :: (q7, .cells [.int .i64 (lg)].toArray 3 (0, 0)) :: (q5, .cells [.int .i64 (cl)].toArray 3 (0, 0)) :: (q4, .cells [.slice A n cap, .int .i64 cyc].toArray 24 (0, 0)) :: rest : Own), w.heap[y.1]? = some y.2) : CallsOn Try.prog 93 [.agg [.int .i64 e1, .int .i64 e2].toArray, .int .i64 b, .pointer (some ⟨q11, 0, none⟩), .pointer (some ⟨q4, 0, none⟩), .pointer (some ⟨q5, 0, none⟩), .pointer (some ⟨q7, 0, none⟩)] w ((q11, .cells [.int .i64 (x)].toArray 3 (0, 0)) :: (q7, .cells [.int .i64 (lg)].toArray 3 (0, 0)) :: (q5, .cells [.int .i64 (cl)].toArray 3 (0, 0)) :: (q4, .cells [.slice A n cap, .int .i64 cyc].toArray 24 (0, 0)) :: rest) (fun v cp1 => v = .bool (decide (spanE es cyc cl (b + e2) < lg)) ∧ cp1 = (q11, .cells [.int .i64 (b + e2)].toArray 3 (0, 0)) :: (q7, .cells [.int .i64 (lg)].toArray 3 (0, 0)) :: (q5, .cells [.int .i64 (cl)].toArray 3 (0, 0)) :: (q4, .cells [.slice A n cap, .int .i64 cyc].toArray 24 (0, 0)) :: rest) := by
  refine fn_on (F := F) Try.func93 rfl Try.ntmps93 rfl hF haway hnd hown ?_
  refine t_seq ?_
  refine b0 ?_
  refine om1 rfl (new_boxN rfl) rfl rfl trivial (fun p6 => ?_)
  refine o1 rfl (det_assign rfl) rfl rfl trivial ?_
  refine be rfl ?_
  refine k_then ?_
  refine t_seq ?_
  refine b0 ?_
  refine o1 rfl (det_move rfl) rfl rfl trivial ?_
  refine o1 rfl (det_fieldAddr fld59_1 rfl) rfl rfl trivial ?_
  refine o1 rfl (det_load1 t1_3 rfl rfl (.head _) rfl) rfl rfl trivial ?_
  first | (refine o1 rfl (det_addI rfl rfl ?_) rfl rfl trivial ?_; (· omega)) | refine o1 rfl (det_add rfl rfl) rfl rfl trivial ?_
  refine st1 nofun rfl t1_3 rfl rfl rfl (.tail .head) rfl trivial rfl ?_
  refine be rfl ?_
  refine k_then ?_
  refine t_seq ?_
  refine bD mixed ?_
  refine r_seg 7 7 [] [0, 1, 2, 3, 4, 5, 6] (by kernel_rfl) ?_
  refine s1 rfl (det_loadN tN24 rfl rfl (.tail _ (.tail _ (.tail _ (.tail _ (.head _))))) rfl) rfl rfl trivial rfl ?_
  refine s1 rfl (det_load1 t1_3 rfl rfl (.tail _ (.tail _ (.tail _ (.head _)))) rfl) rfl rfl trivial rfl ?_
  refine s1 rfl (det_load1 t1_3 rfl rfl (.tail _ (.head _)) rfl) rfl rfl trivial rfl ?_
  refine s1 rfl (det_call hb85 rfl rfl (fun w1 hs => open_ok hs.know hE hG cl hcl (b + e2) (by omega))) rfl rfl trivial rfl ?_
  refine s1 rfl (det_load1 t1_3 rfl rfl (.tail _ (.tail _ (.head _))) rfl) rfl rfl trivial rfl ?_
  refine s1 rfl (det_lss rfl rfl) rfl rfl trivial rfl ?_
  refine s1 rfl (det_assign rfl) rfl rfl trivial rfl ?_
  refine sg_nil ?_
  refine be rfl ?_
  refine k_then ?_
  refine t_ret ?_
  refine ret_tmp rfl rfl rfl (fun w1 hs => ?_)
  exact end_on (bs := [_]) hs rfl ⟨rfl, rfl⟩

/-- gates.Fit. -/
theorem Fit_ok {w : World} {F : Know} (hF : ∀ a v, F a = some v → w.cell? a = some v) {A : Option Addr} {n cap : Nat} {es : Ents} {cyc : Int} (hE : EntK F A n es) (cl : Int) (hcb : -9223372036854775808 ≤ cl ∧ cl ≤ 9223372036854775807) (t lg : Int) : Pure Try.prog 64 [.agg [.slice A n cap, .int .i64 cyc].toArray, .int .i64 cl, .int .i64 t, .int .i64 lg] w (.tuple [.int .i64 (fitA es cyc cl t lg).1, .int .i64 (fitA es cyc cl t lg).2].toArray) := by
  refine fn_pure (F := F) Try.func64 rfl Try.ntmps64 rfl hF ?_
  refine t_seq ?_
  refine b0 ?_
  refine om1 rfl (new_boxN rfl) rfl rfl trivial (fun p4 => ?_)
  refine om1 rfl (new_box1 rfl rfl) rfl rfl trivial (fun p5 => ?_)
  refine om1 rfl (new_box1 rfl rfl) rfl rfl trivial (fun p7 => ?_)
  refine o1 rfl (det_assign rfl) rfl rfl trivial ?_
  refine o1 rfl (det_assign rfl) rfl rfl trivial ?_
  refine be rfl ?_
  refine k_then ?_
  refine t_seq ?_
  refine t_seq ?_
  refine b0 ?_
  refine o1 rfl (det_loadN tN24 rfl rfl (.tail _ (.tail _ (.head _))) rfl) rfl rfl trivial ?_
  refine o1 rfl (det_load1 t1_3 rfl rfl (.tail _ (.head _)) rfl) rfl rfl trivial ?_
  refine o1 rfl (det_move rfl) rfl rfl trivial ?_
  refine o1 rfl (det_load1 t1_3 rfl rfl (.head _) rfl) rfl rfl trivial ?_
  refine o1 rfl (det_call hb84 rfl rfl (fun w1 hs => valid_ok hs.know hE cl t lg hcb)) rfl rfl trivial ?_
  refine o1 rfl (det_assign rfl) rfl rfl trivial ?_
  refine be rfl ?_
  refine k_then ?_
  refine t_seq ?_
  refine b0 ?_
  refine o1 rfl (det_move rfl) rfl rfl trivial ?_
  refine o1 rfl (det_neq rfl rfl) rfl rfl trivial ?_
  refine be rfl ?_
  refine k_then ?_
  refine t_condP bne_iff_ne rfl (fun hb => ?_) (fun hb => ?_)
  ·
    refine t_seq ?_
    refine b0 ?_
    refine o1 rfl (det_move rfl) rfl rfl trivial ?_
    refine o1 rfl (det_assign rfl) rfl rfl trivial ?_
    refine o1 rfl (det_assign rfl) rfl rfl trivial ?_
    refine be rfl ?_
    refine k_then ?_
    refine t_ret (k_thenR (?_))
    refine ret_tmp2 rfl rfl rfl rfl (fun w1 hs => ?_)
    exact ⟨by rw [fitA, if_neg hb], hs.keep⟩
  ·
    have he0 : errG es cyc cl t lg = 0 := by omega
    obtain ⟨hG, hT⟩ := errG_zero he0
    have ht : -1099511627776 * 4 ≤ t ∧ t ≤ 1099511627776 * 4 := by omega
    obtain ⟨hl1, hl2, hall0, hsum, hc9, hc1⟩ := okG_parts hG
    replace hc1 : 0 < cyc := by omega
    refine t_skip ?_
    refine k_then ?_
    refine t_seq ?_
    refine t_seq ?_
    refine bD mixed ?_
    refine r_seg 6 6 [] [0, 1, 2, 3, 4, 5] (by kernel_rfl) ?_
    refine s1 rfl (det_loadN tN24 rfl rfl (.tail _ (.tail _ (.head _))) rfl) rfl rfl trivial rfl ?_
    refine s1 rfl (det_load1 t1_3 rfl rfl (.tail _ (.head _)) rfl) rfl rfl trivial rfl ?_
    refine s1 rfl (det_move rfl) rfl rfl trivial rfl ?_
    refine s1 rfl (det_call hb85 rfl rfl (fun w1 hs => open_ok hs.know hE hG cl ⟨hT.1, hT.2.1⟩ t ht)) rfl rfl trivial rfl ?_
    refine s1 rfl (det_load1 t1_3 rfl rfl (.head _) rfl) rfl rfl trivial rfl ?_
    refine s1 rfl (det_geq rfl rfl) rfl rfl trivial rfl ?_
    refine sg_nil ?_
    refine be rfl ?_
    refine k_then ?_
    refine t_condP decide_eq_true_iff rfl (fun hb => ?_) (fun hb => ?_)
    ·
      replace hb : lg ≤ spanE es cyc cl t := hb
      refine t_seq ?_
      refine b0 ?_
      refine o1 rfl (det_move rfl) rfl rfl trivial ?_
      refine o1 rfl (det_assign rfl) rfl rfl trivial ?_
      refine o1 rfl (det_assign rfl) rfl rfl trivial ?_
      refine be rfl ?_
      refine k_then ?_
      refine t_ret (k_thenR (?_))
      refine ret_tmp2 rfl rfl rfl rfl (fun w1 hs => ?_)
      exact ⟨by rw [fitA, if_pos he0, fitE_now hb]; rfl, hs.keep⟩
    ·
      have hno : ¬ lg ≤ spanE es cyc cl t := hb
      clear hb
      refine t_skip ?_
      refine k_then ?_
      refine t_seq ?_
      refine b0 ?_
      refine o1 rfl (det_move rfl) rfl rfl trivial ?_
      refine om1 rfl (new_alloc z3) rfl rfl trivial (fun p11 => ?_)
      refine st1 nofun rfl t1_3 rfl rfl rfl .head rfl trivial rfl ?_
      refine be rfl ?_
      refine k_then ?_
      refine t_seq ?_
      refine t_seq ?_
      refine b0 ?_
      refine o1 rfl (det_loadN tN24 rfl rfl (.tail _ (.tail _ (.tail _ (.head _)))) rfl) rfl rfl trivial ?_
      refine o1 rfl (det_move rfl) rfl rfl trivial ?_
      refine o1 rfl (det_makeFunc rfl rfl) rfl rfl trivial ?_
      refine oOn (cp := [_, _, _, _]) (rest := []) nofun rfl hb92 rfl rfl rfl trivial (fun w1 hs => (walk_on (R := fun i cp => cp = [(p11, .cells [.int .i64 (if i = 0 then t else beg es cyc t i)].toArray 3 (0, 0)), (p7, .cells [.int .i64 (lg)].toArray 3 (0, 0)), (p5, .cells [.int .i64 (cl)].toArray 3 (0, 0)), (p4, .cells [.slice A n cap, .int .i64 cyc].toArray 24 (0, 0))] ∧ (∀ j, j < i → ¬ lg ≤ spanE es cyc cl (beg es cyc t (j + 1)))) (Ro := fun i cp => cp = [(p11, .cells [.int .i64 (beg es cyc t (i + 1))].toArray 3 (0, 0)), (p7, .cells [.int .i64 (lg)].toArray 3 (0, 0)), (p5, .cells [.int .i64 (cl)].toArray 3 (0, 0)), (p4, .cells [.slice A n cap, .int .i64 cyc].toArray 24 (0, 0))] ∧ (∀ j, j < i → ¬ lg ≤ spanE es cyc cl (beg es cyc t (j + 1))) ∧ lg ≤ spanE es cyc cl (beg es cyc t (i + 1))) hs.know hE hG t ht hs.away hs.nodup hs.own hb93 ⟨rfl, fun j hj => absurd hj (Nat.not_lt_zero _)⟩ (by
          intro i hi cp hR hids w2 hk ho
          obtain ⟨rfl, hall⟩ := hR
          have hrs := rs_bounds hall0 hl1 (loc es cyc t).1 i
          have hen := ent_ok hall0 hl1 (loc es cyc t).1 i
          have hyb := loc_bounds hG t
          have hbg : beg es cyc t i = t - (loc es cyc t).2 + rs es (loc es cyc t).1 i := rfl
          refine (FitC_on (x := if i = 0 then t else beg es cyc t i) (rest := []) hk hE hG ⟨hT.1, hT.2.1⟩ (by omega) hen.2.2 hs.away hs.nodup ho).mono ?_
          rintro v cp' - ⟨rfl, rfl⟩
          rw [← beg_succ]
          refine ⟨_, rfl, fun hb => ⟨by simp, fun j hj => ?_⟩, fun hb => ⟨rfl, hall, by have := of_decide_eq_false hb; omega⟩⟩
          by_cases e : j = i
          · rw [e]; have := of_decide_eq_true hb; omega
          · exact hall j (by omega)))) (fun v cp1 hv hi1 => ?_)
      obtain ⟨b, rfl, hT1, hN⟩ := hv
      refine be rfl ?_
      refine k_then ?_
      refine t_condP Iff.rfl rfl (fun hb => ?_) (fun hb => ?_)
      ·
        refine t_seq ?_
        refine b0 ?_
        refine o1 rfl (det_assign rfl) rfl rfl trivial ?_
        refine o1 rfl (det_assign rfl) rfl rfl trivial ?_
        refine be rfl ?_
        refine k_then ?_
        refine t_ret (k_thenR (?_))
        refine ret_tmp2 rfl rfl rfl rfl (fun w1 hs => ?_)
        exact ⟨by rw [fitA, if_pos he0, fitE_none hno (hT1 hb).2]; rfl, hs.keep⟩
      ·
        obtain ⟨i, hi, rfl, hall, hne⟩ := hN (by simpa using hb)
        refine t_skip ?_
        refine k_then ?_
        refine t_seq ?_
        refine b0 ?_
        refine o1 rfl (det_load1 t1_3 rfl rfl (.head _) rfl) rfl rfl trivial ?_
        refine o1 rfl (det_assign rfl) rfl rfl trivial ?_
        refine o1 rfl (det_assign rfl) rfl rfl trivial ?_
        refine be rfl ?_
        refine k_then ?_
        refine t_ret ?_
        refine ret_tmp2 rfl rfl rfl rfl (fun w1 hs => ?_)
        exact ⟨by rw [fitA, if_pos he0, fitE_at hi hno hall hne]; rfl, hs.keep⟩

/-- Earliest. -/
theorem earliest_ok {w : World} {F : Know} (hF : ∀ a v, F a = some v → w.cell? a = some v) {A : Option Addr} {n cap : Nat} {es : Ents} {cyc : Int} (hE : EntK F A n es) (hG : okG es cyc = true) (cl : Int) (hcl : 0 ≤ cl ∧ cl ≤ 7) (t lg : Int) (ht : -1099511627776 ≤ t ∧ t ≤ 1099511627776) : Pure Try.prog 95 [.agg [.slice A n cap, .int .i64 cyc].toArray, .int .i64 cl, .int .i64 t, .int .i64 lg] w (.tuple [.int .i64 ((fitE es cyc cl t lg).getD 0), .bool (fitE es cyc cl t lg).isSome].toArray) := by
  obtain ⟨hl1, hl2, hall0, hsum, hc9, hc1⟩ := okG_parts hG
  replace hc1 : 0 < cyc := by omega

  refine fn_pure (F := F) Try.func95 rfl Try.ntmps95 rfl hF ?_
  refine t_seq ?_
  refine b0 ?_
  refine om1 rfl (new_boxN rfl) rfl rfl trivial (fun p4 => ?_)
  refine o1 rfl (det_assign rfl) rfl rfl trivial ?_
  refine o1 rfl (det_assign rfl) rfl rfl trivial ?_
  refine be rfl ?_
  refine k_then ?_
  refine t_seq ?_
  refine t_seq ?_
  refine b0 ?_
  refine o1 rfl (det_move rfl) rfl rfl trivial ?_
  refine o1 rfl (det_eql rfl rfl) rfl rfl trivial ?_
  refine o2P beq_iff_eq rfl (det_move rfl) rfl rfl trivial (fun hb => ?_) (fun hb => ?_)
  ·
    refine on rfl rfl rfl ⟨_, rfl, .inl rfl⟩ ?_
    refine on rfl rfl rfl ⟨_, rfl, .inl rfl⟩ ?_
    refine on rfl rfl rfl ⟨_, rfl, .inl rfl⟩ ?_
    refine on rfl rfl rfl ⟨_, rfl, .inl rfl⟩ ?_
    refine on rfl rfl rfl ⟨_, rfl, .inl rfl⟩ ?_
    refine on rfl rfl rfl ⟨_, rfl, .inl rfl⟩ ?_
    refine o1 rfl (det_pickT rfl rfl) rfl rfl trivial ?_
    refine be rfl ?_
    refine k_then ?_
    refine t_condT rfl ?_
    refine t_seq ?_
    refine b0 ?_
    refine o1 rfl (det_move rfl) rfl rfl trivial ?_
    refine o1 rfl (det_assign rfl) rfl rfl trivial ?_
    refine o1 rfl (det_assign rfl) rfl rfl trivial ?_
    refine be rfl ?_
    refine k_then ?_
    refine t_ret (k_thenR (?_))
    refine ret_tmp2 rfl rfl rfl rfl (fun w1 hs => ?_)
    exact ⟨by rw [fitE_now (by have := spanE_bounds hG cl t; omega)]; rfl, hs.keep⟩
  ·
    refine o1 rfl (det_loadN tN24 rfl rfl (.head _) rfl) rfl rfl ⟨_, rfl, rfl⟩ ?_
    refine o1 rfl (det_move rfl) rfl rfl ⟨_, rfl, rfl⟩ ?_
    refine o1 rfl (det_move rfl) rfl rfl ⟨_, rfl, rfl⟩ ?_
    refine o1 rfl (det_call hb111 rfl rfl (fun w1 hs => span_ok hs.know hE hG cl hcl t (by omega))) rfl rfl ⟨_, rfl, rfl⟩ ?_
    refine o1 rfl (det_move rfl) rfl rfl ⟨_, rfl, rfl⟩ ?_
    refine o1 rfl (det_geq rfl rfl) rfl rfl ⟨_, rfl, rfl⟩ ?_
    refine o1 rfl (det_pickF rfl rfl) rfl rfl trivial ?_
    refine be rfl ?_
    refine k_then ?_
    refine t_condP decide_eq_true_iff rfl (fun hb => ?_) (fun hb => ?_)
    ·
      refine t_seq ?_
      refine b0 ?_
      refine o1 rfl (det_move rfl) rfl rfl trivial ?_
      refine o1 rfl (det_assign rfl) rfl rfl trivial ?_
      refine o1 rfl (det_assign rfl) rfl rfl trivial ?_
      refine be rfl ?_
      refine k_then ?_
      refine t_ret (k_thenR (?_))
      refine ret_tmp2 rfl rfl rfl rfl (fun w1 hs => ?_)
      exact ⟨by rw [fitE_now hb]; rfl, hs.keep⟩
    ·
      refine t_skip ?_
      refine k_then ?_
      refine t_seq ?_
      refine b0 ?_
      refine o1 rfl (det_loadN tN24 rfl rfl (.head _) rfl) rfl rfl trivial ?_
      refine o1 rfl (det_move rfl) rfl rfl trivial ?_
      refine o1 rfl (det_call hb113 rfl rfl (fun w1 hs => at_ok hs.know hE hG t)) rfl rfl trivial ?_
      refine o1 rfl (det_move rfl) rfl rfl trivial ?_
      refine o1 rfl (det_extract rfl rfl) rfl rfl trivial ?_
      refine o1 rfl (det_extract rfl rfl) rfl rfl trivial ?_
      refine o1 rfl (det_assign rfl) rfl rfl trivial ?_
      refine o1 rfl (det_assign rfl) rfl rfl trivial ?_
      refine be rfl ?_
      refine k_then ?_
      refine t_seq ?_
      refine b0 ?_
      have hno : ¬ lg ≤ spanE es cyc cl t := hb
      clear hb
      have hyb := loc_bounds hG t
      refine o1 rfl (det_move rfl) rfl rfl trivial ?_
      refine o1 rfl (det_move rfl) rfl rfl trivial ?_
      first | (refine o1 rfl (det_subI rfl rfl ?_) rfl rfl trivial ?_; (· omega)) | refine o1 rfl (det_sub rfl rfl) rfl rfl trivial ?_
      refine o1 rfl (det_assign rfl) rfl rfl trivial ?_
      refine be rfl ?_
      refine k_then ?_
      refine t_seq ?_
      refine t_seq ?_
      refine b0 ?_
      refine o1 rfl (det_assign rfl) rfl rfl trivial ?_
      refine be rfl ?_
      refine k_then ?_
      refine t_block ?_
      refine t_whileM (σ := Nat) (fun s => [(12, .int .i64 (beg es cyc t s)), (13, .int .i64 (s : Int))]) (fun _ => _) (fun s => es.length - s) (fun s => s ≤ es.length ∧ ∀ j, j < s → ¬ lg ≤ spanE es cyc cl (beg es cyc t (j + 1))) 0 (env0 := [(1, _), (3, _), (4, _), (10, _)]) ⟨Nat.zero_le _, fun j hj => absurd hj (Nat.not_lt_zero _)⟩ ⟨(by simp only [beg, rs, Int.add_zero]; rfl), rfl, trivial⟩ ⟨rfl, rfl, rfl, rfl, trivial⟩ (.refl _) ?_
      rintro s ⟨hk, hall⟩
      refine t_seq ?_
      refine t_seq ?_
      refine b0 ?_
      refine o1 rfl (det_move rfl) rfl rfl trivial ?_
      refine o1 rfl (det_fieldAddr fld24_0 rfl) rfl rfl trivial ?_
      refine o1 rfl (det_load1 t1_22 rfl rfl (.head _) rfl) rfl rfl trivial ?_
      refine o1 rfl (det_lenS sl22 rfl) rfl rfl trivial ?_
      refine o1 rfl (det_lss rfl rfl) rfl rfl trivial ?_
      refine be rfl ?_
      refine k_then ?_
      refine t_condP decide_eq_true_iff rfl (fun hb => ?_) (fun hb => ?_)
      ·
        have hlt : s < es.length := by have := hE.len; omega
        have hnl := hE.len
        obtain ⟨hlo, hy0, hy1, _⟩ := loc_spec hG t
        obtain ⟨A, rfl⟩ := hE.some hlo
        have hmlt := Nat.mod_lt ((loc es cyc t).1 + s) hl1
        have hmod : (((loc es cyc t).1 : Int) + (s : Int)) % (n : Int) = (((((loc es cyc t).1 + s) % es.length : Nat)) : Int) := by rw [hnl, ← Int.natCast_add, ← Int.natCast_emod]
        have hcell : ∀ j, j < 2 → F ((A.add (((((loc es cyc t).1 : Int) + (s : Int)) % (n : Int)).toNat * 2)).add j) = [Value.int .i64 (ent es (loc es cyc t).1 s).1, .int .i64 (ent es (loc es cyc t).1 s).2][j]? := by
          rw [hmod, ent_get _ _ hl1]; exact hE.cells hmlt
        have hrs := rs_bounds hall0 hl1 (loc es cyc t).1 s
        have hen := ent_ok hall0 hl1 (loc es cyc t).1 s
        have hyb := loc_bounds hG t
        have hbg : beg es cyc t s = t - (loc es cyc t).2 + rs es (loc es cyc t).1 s := rfl
        have hb1 := beg_succ es cyc t s
        refine t_skip ?_
        refine k_then ?_
        refine t_seq ?_
        refine t_block ?_
        refine t_seq ?_
        refine bD mixed ?_
        refine r_seg 15 15 [] [0, 1, 2, 3, 4, 5, 6, 7, 8, 9, 10, 11, 12, 13, 14] (by kernel_rfl) ?_
        refine s1 rfl (det_move rfl) rfl rfl trivial rfl ?_
        refine s1 rfl (det_fieldAddr fld24_0 rfl) rfl rfl trivial rfl ?_
        refine s1 rfl (det_load1 t1_22 rfl rfl (.head _) rfl) rfl rfl trivial rfl ?_
        refine s1 rfl (det_move rfl) rfl rfl trivial rfl ?_
        refine s1 rfl (det_move rfl) rfl rfl trivial rfl ?_
        first | (refine s1 rfl (det_addI rfl rfl ?_) rfl rfl trivial rfl ?_; (· omega)) | refine s1 rfl (det_add rfl rfl) rfl rfl trivial rfl ?_
        refine s1 rfl (det_fieldAddr fld24_0 rfl) rfl rfl trivial rfl ?_
        refine s1 rfl (det_load1 t1_22 rfl rfl (.head _) rfl) rfl rfl trivial rfl ?_
        refine s1 rfl (det_lenS sl22 rfl) rfl rfl trivial rfl ?_
        first | (refine s1 rfl (det_remP rfl rfl ?_) rfl rfl trivial rfl ?_; (· omega)) | (refine s1 rfl (det_rem rfl rfl ?_) rfl rfl trivial rfl ?_; (· (first | decide | omega)))
        first | (refine s1 rfl (det_indexAddr sl22 rfl rfl ?_) rfl rfl trivial rfl ?_; (· (first | decide | omega)))
        refine s1 rfl (det_fieldAddr fld59_1 rfl) rfl rfl trivial rfl ?_
        refine s1 rfl (det_loadK t1_3 rfl (by have := hcell 1 (by omega); rw [add_add] at this ⊢; simpa using this)) rfl rfl trivial rfl ?_
        first | (refine s1 rfl (det_addI rfl rfl ?_) rfl rfl trivial rfl ?_; (· omega)) | refine s1 rfl (det_add rfl rfl) rfl rfl trivial rfl ?_
        refine s1 rfl (det_assign rfl) rfl rfl trivial rfl ?_
        refine sg_nil ?_
        refine be rfl ?_
        refine k_then ?_
        refine t_seq ?_
        refine b0 ?_
        rw [← hb1]
        refine o1 rfl (det_loadN tN24 rfl rfl (.head _) rfl) rfl rfl trivial ?_
        refine o1 rfl (det_move rfl) rfl rfl trivial ?_
        refine o1 rfl (det_move rfl) rfl rfl trivial ?_
        refine o1 rfl (det_call hb111 rfl rfl (fun w1 hs => span_ok hs.know hE hG cl hcl _ (by omega))) rfl rfl trivial ?_
        refine o1 rfl (det_move rfl) rfl rfl trivial ?_
        refine o1 rfl (det_geq rfl rfl) rfl rfl trivial ?_
        refine be rfl ?_
        refine k_then ?_
        refine t_condP decide_eq_true_iff rfl (fun hb => ?_) (fun hb => ?_)
        ·
          refine t_seq ?_
          refine b0 ?_
          refine o1 rfl (det_move rfl) rfl rfl trivial ?_
          refine o1 rfl (det_assign rfl) rfl rfl trivial ?_
          refine o1 rfl (det_assign rfl) rfl rfl trivial ?_
          refine be rfl ?_
          refine k_then ?_
          refine t_ret (k_blkR (k_thenR (k_thenR (k_blkR (k_thenR (?_))))))
          refine ret_tmp2 rfl rfl rfl rfl (fun w1 hs => ?_)
          exact ⟨by rw [fitE_at hlt hno hall hb]; rfl, hs.keep⟩
        ·
          have hst : ¬ lg ≤ spanE es cyc cl (beg es cyc t (s + 1)) := hb
          refine t_skip ?_
          refine k_blk ?_
          refine k_then ?_
          refine b0 ?_
          refine o1 rfl (det_move rfl) rfl rfl trivial ?_
          first | (refine o1 rfl (det_addI rfl rfl ?_) rfl rfl trivial ?_; (· omega)) | refine o1 rfl (det_add rfl rfl) rfl rfl trivial ?_
          refine o1 rfl (det_assign rfl) rfl rfl trivial ?_
          refine be rfl ?_
          refine k_then ?_
          refine loop_back (s + 1) ⟨by omega, fun j hj => if e : j = s then by rw [e]; exact hst else hall j (by omega)⟩ (by omega) ⟨(by rw [beg_succ]; rfl), rfl, rfl, rfl, rfl, rfl, trivial⟩ (.refl _)
      ·
        refine t_exit ?_
        refine k_thenE ?_
        refine k_thenE ?_
        refine k_blkE ?_
        refine k_then ?_
        refine t_seq ?_
        refine b0 ?_
        refine o1 rfl (det_assign rfl) rfl rfl trivial ?_
        refine o1 rfl (det_assign rfl) rfl rfl trivial ?_
        refine be rfl ?_
        refine k_then ?_
        refine t_ret ?_
        refine ret_tmp2 rfl rfl rfl rfl (fun w1 hs => ?_)
        exact ⟨by rw [fitE_none hno fun j hj => hall j (by have := hE.len; omega)]; rfl, hs.keep⟩

/-- The reference's Fit. -/
theorem rFit_ok {w : World} {F : Know} (hF : ∀ a v, F a = some v → w.cell? a = some v) {A : Option Addr} {n cap : Nat} {es : Ents} {cyc : Int} (hE : EntK F A n es) (cl : Int) (hcb : -9223372036854775808 ≤ cl ∧ cl ≤ 9223372036854775807) (t lg : Int) : Pure Try.prog 66 [.agg [.slice A n cap, .int .i64 cyc].toArray, .int .i64 cl, .int .i64 t, .int .i64 lg] w (.tuple [.int .i64 (fitA es cyc cl t lg).1, .int .i64 (fitA es cyc cl t lg).2].toArray) := by
  refine fn_pure (F := F) Try.func66 rfl Try.ntmps66 rfl hF ?_
  refine t_seq ?_
  refine b0 ?_
  refine om1 rfl (new_boxN rfl) rfl rfl trivial (fun p4 => ?_)
  refine o1 rfl (det_assign rfl) rfl rfl trivial ?_
  refine o1 rfl (det_assign rfl) rfl rfl trivial ?_
  refine be rfl ?_
  refine k_then ?_
  refine t_seq ?_
  refine b0 ?_
  refine o1 rfl (det_loadN tN24 rfl rfl (.head _) rfl) rfl rfl trivial ?_
  refine o1 rfl (det_move rfl) rfl rfl trivial ?_
  refine o1 rfl (det_move rfl) rfl rfl trivial ?_
  refine o1 rfl (det_move rfl) rfl rfl trivial ?_
  refine o1 rfl (det_call hb94 rfl rfl (fun w1 hs => times_ok hs.know hE cl t lg hcb)) rfl rfl trivial ?_
  refine o1 rfl (det_assign rfl) rfl rfl trivial ?_
  refine be rfl ?_
  refine k_then ?_
  refine t_seq ?_
  refine t_seq ?_
  refine b0 ?_
  refine o1 rfl (det_move rfl) rfl rfl trivial ?_
  refine o1 rfl (det_neq rfl rfl) rfl rfl trivial ?_
  refine be rfl ?_
  refine k_then ?_
  refine t_condP bne_iff_ne rfl (fun hb => ?_) (fun hb => ?_)
  ·
    refine t_seq ?_
    refine b0 ?_
    refine o1 rfl (det_move rfl) rfl rfl trivial ?_
    refine o1 rfl (det_assign rfl) rfl rfl trivial ?_
    refine o1 rfl (det_assign rfl) rfl rfl trivial ?_
    refine be rfl ?_
    refine k_then ?_
    refine t_ret (k_thenR (?_))
    refine ret_tmp2 rfl rfl rfl rfl (fun w1 hs => ?_)
    exact ⟨by rw [fitA, if_neg hb], hs.keep⟩
  ·
    have he0 : errG es cyc cl t lg = 0 := by omega
    obtain ⟨hG, hT⟩ := errG_zero he0
    have ht : -1099511627776 * 4 ≤ t ∧ t ≤ 1099511627776 * 4 := by omega
    obtain ⟨hl1, hl2, hall0, hsum, hc9, hc1⟩ := okG_parts hG
    replace hc1 : 0 < cyc := by omega
    refine t_skip ?_
    refine k_then ?_
    refine t_seq ?_
    refine b0 ?_
    refine o1 rfl (det_loadN tN24 rfl rfl (.head _) rfl) rfl rfl trivial ?_
    refine o1 rfl (det_move rfl) rfl rfl trivial ?_
    refine o1 rfl (det_move rfl) rfl rfl trivial ?_
    refine o1 rfl (det_move rfl) rfl rfl trivial ?_
    refine o1 rfl (det_call hb95 rfl rfl (fun w1 hs => earliest_ok hs.know hE hG cl ⟨hT.1, hT.2.1⟩ t lg (by omega))) rfl rfl trivial ?_
    refine o1 rfl (det_move rfl) rfl rfl trivial ?_
    refine o1 rfl (det_extract rfl rfl) rfl rfl trivial ?_
    refine o1 rfl (det_extract rfl rfl) rfl rfl trivial ?_
    refine o1 rfl (det_assign rfl) rfl rfl trivial ?_
    refine o1 rfl (det_assign rfl) rfl rfl trivial ?_
    refine be rfl ?_
    refine k_then ?_
    refine t_seq ?_
    refine t_seq ?_
    refine b0 ?_
    refine o1 rfl (det_move rfl) rfl rfl trivial ?_
    refine o1 rfl (det_not rfl) rfl rfl trivial ?_
    refine be rfl ?_
    refine k_then ?_
    refine t_condP not_iff_false rfl (fun hb => ?_) (fun hb => ?_)
    ·
      have hN : fitE es cyc cl t lg = none := by simpa using hb
      refine t_seq ?_
      refine b0 ?_
      refine o1 rfl (det_assign rfl) rfl rfl trivial ?_
      refine o1 rfl (det_assign rfl) rfl rfl trivial ?_
      refine be rfl ?_
      refine k_then ?_
      refine t_ret (k_thenR (?_))
      refine ret_tmp2 rfl rfl rfl rfl (fun w1 hs => ?_)
      exact ⟨by rw [fitA, if_pos he0, hN]; rfl, hs.keep⟩
    ·
      obtain ⟨x, hx⟩ := Option.isSome_iff_exists.1 (Bool.of_not_eq_false hb)
      refine t_skip ?_
      refine k_then ?_
      refine t_seq ?_
      refine b0 ?_
      refine o1 rfl (det_move rfl) rfl rfl trivial ?_
      refine o1 rfl (det_assign rfl) rfl rfl trivial ?_
      refine o1 rfl (det_assign rfl) rfl rfl trivial ?_
      refine be rfl ?_
      refine k_then ?_
      refine t_ret ?_
      refine ret_tmp2 rfl rfl rfl rfl (fun w1 hs => ?_)
      exact ⟨by rw [fitA, if_pos he0, hx]; rfl, hs.keep⟩

end Go.Proofs.Cp
