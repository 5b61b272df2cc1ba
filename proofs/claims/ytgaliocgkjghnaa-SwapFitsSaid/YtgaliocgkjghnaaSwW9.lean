/-
  Walks through layers 27, 29 and 30 and their references.
-/
import Derived.Test.YtgaliocgkjghnaaSwW8
import Derived.Test.YtgaliocgkjghnaaSwW7
import Derived.Test.YtgaliocgkjghnaaSwK
namespace Go.Proofs.Sw
open Go Go.Eng Go.Gt Go.Proofs.Gt Go.Sw
set_option maxRecDepth 4000

/-- mod. -/
theorem mod_ok {w : World} {F : Know} (hF : ∀ a v, F a = some v → w.cell? a = some v) {a m : Int} (hm : 1 ≤ m ∧ m ≤ 9600000) (ha : -9000000000000 ≤ a ∧ a ≤ 9000000000000) : Pure Try.prog 50 [.int .i64 a, .int .i64 m] w (.int .i64 (a % m)) := by
  refine fn_pure (F := F) Try.func50 rfl Try.ntmps50 rfl hF ?_
  refine t_seq ?_
  refine b0 ?_
  refine o1 rfl (det_assign rfl) rfl rfl trivial ?_
  refine be rfl ?_
  refine k_then ?_
  refine t_seq ?_
  refine b0 ?_
  refine o1 rfl (det_move rfl) rfl rfl trivial ?_
  refine o1 rfl (det_move rfl) rfl rfl trivial ?_
  first | (refine o1 rfl (det_remP rfl rfl ?_) rfl rfl trivial ?_; (· omega)) | (refine o1 rfl (det_rem rfl rfl ?_) rfl rfl trivial ?_; (· (first | decide | omega)))
  have htb := tmod_bounds a (c := m) (by omega)
  refine o1 rfl (det_move rfl) rfl rfl trivial ?_
  first | (refine o1 rfl (det_addI rfl rfl ?_) rfl rfl trivial ?_; (· omega)) | refine o1 rfl (det_add rfl rfl) rfl rfl trivial ?_
  refine o1 rfl (det_move rfl) rfl rfl trivial ?_
  first | (refine o1 rfl (det_remP rfl rfl ?_) rfl rfl trivial ?_; (· omega)) | (refine o1 rfl (det_rem rfl rfl ?_) rfl rfl trivial ?_; (· (first | decide | omega)))
  refine o1 rfl (det_assign rfl) rfl rfl trivial ?_
  refine be rfl ?_
  refine k_then ?_
  refine t_ret ?_
  refine ret_tmp rfl rfl rfl (fun w1 hs => ?_)
  exact ⟨by rw [mod_norm], hs.keep⟩

/-- Mod. -/
theorem rmod_ok {w : World} {F : Know} (hF : ∀ a v, F a = some v → w.cell? a = some v) {a m : Int} (hm : 1 ≤ m ∧ m ≤ 9600000) (ha : -9000000000000 ≤ a ∧ a ≤ 9000000000000) : Pure Try.prog 78 [.int .i64 a, .int .i64 m] w (.int .i64 (a % m)) := by
  refine fn_pure (F := F) Try.func78 rfl Try.ntmps78 rfl hF ?_
  refine t_seq ?_
  refine b0 ?_
  refine o1 rfl (det_assign rfl) rfl rfl trivial ?_
  refine be rfl ?_
  refine k_then ?_
  refine t_seq ?_
  refine b0 ?_
  refine o1 rfl (det_move rfl) rfl rfl trivial ?_
  refine o1 rfl (det_move rfl) rfl rfl trivial ?_
  first | (refine o1 rfl (det_remP rfl rfl ?_) rfl rfl trivial ?_; (· omega)) | (refine o1 rfl (det_rem rfl rfl ?_) rfl rfl trivial ?_; (· (first | decide | omega)))
  have htb := tmod_bounds a (c := m) (by omega)
  have htc := tmod_cases a (c := m) (by omega)
  refine o1 rfl (det_assign rfl) rfl rfl trivial ?_
  refine be rfl ?_
  refine k_then ?_
  refine t_seq ?_
  refine t_seq ?_
  refine b0 ?_
  refine o1 rfl (det_move rfl) rfl rfl trivial ?_
  refine o1 rfl (det_lss rfl rfl) rfl rfl trivial ?_
  refine be rfl ?_
  refine k_then ?_
  refine t_condP decide_eq_true_iff rfl (fun hb => ?_) (fun hb => ?_)
  ·
    refine b0 ?_
    refine o1 rfl (det_move rfl) rfl rfl trivial ?_
    refine o1 rfl (det_move rfl) rfl rfl trivial ?_
    first | (refine o1 rfl (det_addI rfl rfl ?_) rfl rfl trivial ?_; (· omega)) | refine o1 rfl (det_add rfl rfl) rfl rfl trivial ?_
    refine o1 rfl (det_assign rfl) rfl rfl trivial ?_
    refine be rfl ?_
    refine k_then ?_
    refine t_seq ?_
    refine b0 ?_
    refine o1 rfl (det_move rfl) rfl rfl trivial ?_
    refine o1 rfl (det_assign rfl) rfl rfl trivial ?_
    refine be rfl ?_
    refine k_then ?_
    refine t_ret ?_
    refine ret_tmp rfl rfl rfl (fun w1 hs => ?_)
    exact ⟨by rw [htc.1 hb], hs.keep⟩
  ·
    refine t_skip ?_
    refine k_then ?_
    refine t_seq ?_
    refine b0 ?_
    refine o1 rfl (det_move rfl) rfl rfl trivial ?_
    refine o1 rfl (det_assign rfl) rfl rfl trivial ?_
    refine be rfl ?_
    refine k_then ?_
    refine t_ret ?_
    refine ret_tmp rfl rfl rfl (fun w1 hs => ?_)
    exact ⟨by rw [htc.2 (by omega)], hs.keep⟩

/-- times. -/
theorem times_ok {w : World} {F : Know} (hF : ∀ a v, F a = some v → w.cell? a = some v) {A : Option Addr} {n cap : Nat} {xs : List Int} (hX : IntsA F A n xs) (hn : n ≤ 100) : Pure Try.prog 49 [.slice A n cap] w (.int .i64 (if xs.all okTm then 0 else 2)) := by
  refine fn_pure (F := F) Try.func49 rfl Try.ntmps49 rfl hF ?_
  refine t_seq ?_
  refine b0 ?_
  refine o1 rfl (det_assign rfl) rfl rfl trivial ?_
  refine be rfl ?_
  refine k_then ?_
  refine t_seq ?_
  refine t_seq ?_
  refine b0 ?_
  refine o1 rfl (det_move rfl) rfl rfl trivial ?_
  refine o1 rfl (det_lenS sl105 rfl) rfl rfl trivial ?_
  refine o1 rfl (det_move rfl) rfl rfl trivial ?_
  refine be rfl ?_
  refine k_then ?_
  refine t_block ?_
  refine t_whileM (σ := Nat) (fun s => [(7, .int .i64 s)]) (fun _ => _) (fun s => xs.length - s) (fun s => s ≤ xs.length ∧ ∀ i (h : i < xs.length), i < s → okTm xs[i] = true) 0 (env0 := [(5, _), (6, _)]) ⟨Nat.zero_le _, fun i _ hi => absurd hi (Nat.not_lt_zero i)⟩ ⟨rfl, trivial⟩ ⟨rfl, rfl, trivial⟩ (.refl _) ?_
  rintro s ⟨hsl, hall⟩
  have hnl := hX.len
  refine t_seq ?_
  refine b0 ?_
  refine o1 rfl (det_lss rfl rfl) rfl rfl trivial ?_
  refine be rfl ?_
  refine k_then ?_
  refine t_seq ?_
  refine t_condP decide_eq_true_iff rfl (fun hb => ?_) (fun hb => ?_)
  ·
    have hlt : s < xs.length := by omega
    obtain ⟨A, rfl⟩ := hX.some hlt
    refine t_skip ?_
    refine k_then ?_
    refine t_seq ?_
    refine t_block ?_
    refine t_seq ?_
    refine b0 ?_
    first | (refine o1 rfl (det_indexAddr sl105 rfl rfl ?_) rfl rfl trivial ?_; (· (first | decide | omega)))
    refine o1 rfl (det_loadK t1_3 rfl (hX.cell (i := (s : Int)) (k := s) (Int.toNat_natCast s) hlt)) rfl rfl trivial ?_
    refine o1 rfl (det_assign rfl) rfl rfl trivial ?_
    refine be rfl ?_
    refine k_then ?_
    refine t_seq ?_
    refine t_merge (env0 := [(5, _), (6, _), (7, _)]) ⟨rfl, rfl, rfl, trivial⟩ 16 (.bool (!okTm xs[s])) ?_ (fun hK => ?_)
    ·
      refine k_then ?_
      refine t_condP Iff.rfl rfl (fun hb => ?_) (fun hb => ?_)
      ·
        have hno : okTm xs[s] = false := by simpa using hb
        refine t_seq ?_
        refine b0 ?_
        refine o1 rfl (det_assign rfl) rfl rfl trivial ?_
        refine be rfl ?_
        refine k_then ?_
        refine t_ret (k_blkR (k_thenR (k_thenR (k_blkR (k_thenR (?_))))))
        refine ret_tmp rfl rfl rfl (fun w1 hs => ?_)
        exact ⟨by rw [if_neg (fun h => by rw [List.all_eq_true.1 h _ (List.getElem_mem hlt)] at hno; cases hno)], hs.keep⟩
      ·
        have hok : okTm xs[s] = true := by simpa using hb
        refine t_skip ?_
        refine k_blk ?_
        refine k_then ?_
        refine b0 ?_
        first | (refine o1 rfl (det_addI rfl rfl ?_) rfl rfl trivial ?_; (· omega)) | refine o1 rfl (det_add rfl rfl) rfl rfl trivial ?_
        refine o1 rfl (det_move rfl) rfl rfl trivial ?_
        refine be rfl ?_
        refine k_then ?_
        refine loop_back (s + 1) ⟨by omega, fun i h hi => by
            by_cases e : i = s
            · subst e; exact hok
            · exact hall i h (by omega)⟩ (by omega) ⟨rfl, rfl, rfl, trivial⟩ (.refl _)
    ·
      refine b0 ?_
      refine o1 rfl (det_move rfl) rfl rfl trivial ?_
      refine o1 rfl (det_lss rfl rfl) rfl rfl trivial ?_
      refine o2P decide_eq_true_iff rfl (det_move rfl) rfl rfl trivial (fun hb => ?_) (fun hb => ?_)
      ·
        refine on rfl rfl rfl ⟨_, rfl, .inl rfl⟩ ?_
        refine on rfl rfl rfl ⟨_, rfl, .inl rfl⟩ ?_
        refine o1 rfl (det_pickT rfl rfl) rfl rfl trivial ?_
        refine be rfl ?_
        refine tk_drop ?_ (.refl _) hK
        exact ⟨(mb rfl (by grind [okTm])), rfl, rfl, rfl, trivial⟩
      ·
        refine o1 rfl (det_move rfl) rfl rfl ⟨_, rfl, rfl⟩ ?_
        refine o1 rfl (det_gtr rfl rfl) rfl rfl ⟨_, rfl, rfl⟩ ?_
        refine o1 rfl (det_pickF rfl rfl) rfl rfl trivial ?_
        refine be rfl ?_
        refine tk_drop ?_ (.refl _) hK
        exact ⟨(mb rfl (by grind [okTm])), rfl, rfl, rfl, trivial⟩
  ·
    have hse : s = xs.length := by omega
    refine t_exit ?_
    refine k_thenE ?_
    refine k_thenE ?_
    refine k_blkE ?_
    refine k_then ?_
    refine t_seq ?_
    refine b0 ?_
    refine o1 rfl (det_assign rfl) rfl rfl trivial ?_
    refine be rfl ?_
    refine k_then ?_
    refine t_ret ?_
    refine ret_tmp rfl rfl rfl (fun w1 hs => ?_)
    exact ⟨by rw [if_pos (List.all_eq_true.2 fun x hx => by obtain ⟨i, hi, rfl⟩ := List.getElem_of_mem hx; exact hall i hi (by omega))], hs.keep⟩

/-- time. -/
theorem time_ok {w : World} {F : Know} (hF : ∀ a v, F a = some v → w.cell? a = some v) {t : Int} : Pure Try.prog 53 [.int .i64 t] w (.bool (okTm t)) := by
  refine fn_pure (F := F) Try.func53 rfl Try.ntmps53 rfl hF ?_
  refine t_seq ?_
  refine b0 ?_
  refine o1 rfl (det_assign rfl) rfl rfl trivial ?_
  refine be rfl ?_
  refine k_then ?_
  refine t_seq ?_
  refine b0 ?_
  refine o1 rfl (det_move rfl) rfl rfl trivial ?_
  refine o1 rfl (det_geq rfl rfl) rfl rfl trivial ?_
  refine o2P decide_eq_true_iff rfl (det_move rfl) rfl rfl trivial (fun hb => ?_) (fun hb => ?_)
  ·
    refine o1 rfl (det_move rfl) rfl rfl ⟨_, rfl, rfl⟩ ?_
    refine o1 rfl (det_leq rfl rfl) rfl rfl ⟨_, rfl, rfl⟩ ?_
    refine o1 rfl (det_pickT rfl rfl) rfl rfl trivial ?_
    refine o1 rfl (det_assign rfl) rfl rfl trivial ?_
    refine be rfl ?_
    refine k_then ?_
    refine t_ret ?_
    refine ret_tmp rfl rfl rfl (fun w1 hs => ?_)
    first | exact ⟨rfl, hs.keep⟩ | exact ⟨by grind [okTm], hs.keep⟩
  ·
    refine on rfl rfl rfl ⟨_, rfl, .inl rfl⟩ ?_
    refine on rfl rfl rfl ⟨_, rfl, .inl rfl⟩ ?_
    refine o1 rfl (det_pickF rfl rfl) rfl rfl trivial ?_
    refine o1 rfl (det_assign rfl) rfl rfl trivial ?_
    refine be rfl ?_
    refine k_then ?_
    refine t_ret ?_
    refine ret_tmp rfl rfl rfl (fun w1 hs => ?_)
    first | exact ⟨rfl, hs.keep⟩ | exact ⟨by grind [okTm], hs.keep⟩

/-- Check. -/
theorem check29_ok {w : World} {F : Know} (hF : ∀ a v, F a = some v → w.cell? a = some v) {c : Ch} (hC : ChK F c) : Pure Try.prog 17 [.agg (chv c).toArray] w (.int .i64 (checkC c)) := by
  refine fn_pure (F := F) Try.func17 rfl Try.ntmps17 rfl hF ?_
  refine t_seq ?_
  refine b0 ?_
  refine om1 rfl (new_boxN rfl) rfl rfl trivial (fun p1 => ?_)
  refine o1 rfl (det_assign rfl) rfl rfl trivial ?_
  refine be rfl ?_
  refine k_then ?_
  refine t_seq ?_
  refine t_merge (env0 := [(1, _), (2, _)]) ⟨rfl, rfl, trivial⟩ 3 (.bool (okG c.op.es c.op.cyc && okTm c.base)) ?_ (fun hK => ?_)
  ·
    refine k_then ?_
    refine t_seq ?_
    refine t_block ?_
    refine t_seq ?_
    refine b0 ?_
    refine o1 rfl (det_move rfl) rfl rfl trivial ?_
    refine o1 rfl (det_not rfl) rfl rfl trivial ?_
    refine o1 rfl (det_assign rfl) rfl rfl trivial ?_
    refine be rfl ?_
    refine k_then ?_
    refine t_condP not_iff_false rfl (fun hb => ?_) (fun hb => ?_)
    ·
      have hv : (okG c.op.es c.op.cyc && okTm c.base) = false := by simpa using hb
      have hno : okC c = false := by unfold okC; rw [hv]; rfl
      refine t_skip ?_
      refine k_blk ?_
      refine k_then ?_
      refine t_seq ?_
      refine t_seq ?_
      refine b0 ?_
      refine o1 rfl (det_move rfl) rfl rfl trivial ?_
      refine o1 rfl (det_not rfl) rfl rfl trivial ?_
      refine be rfl ?_
      refine k_then ?_
      refine t_condP not_iff_false rfl (fun hb => ?_) (fun hb => ?_)
      ·
        skip
        refine t_seq ?_
        refine b0 ?_
        refine o1 rfl (det_assign rfl) rfl rfl trivial ?_
        refine be rfl ?_
        refine k_then ?_
        refine t_ret (k_thenR (?_))
        refine ret_tmp rfl rfl rfl (fun w1 hs => ?_)
        exact ⟨by unfold checkC okC; grind, hs.keep⟩
      ·
        skip
        refine t_skip ?_
        refine k_then ?_
        refine t_seq ?_
        refine b0 ?_
        refine o1 rfl (det_assign rfl) rfl rfl trivial ?_
        refine be rfl ?_
        refine k_then ?_
        refine t_ret ?_
        refine ret_tmp rfl rfl rfl (fun w1 hs => ?_)
        exact ⟨by unfold checkC okC; grind, hs.keep⟩
    ·
      have hv : (okG c.op.es c.op.cyc && okTm c.base) = true := by simpa using hb
      have hpar : okG c.op.es c.op.cyc = true ∧ okTm c.base = true := by simpa using hv
      have hcy := okG_cyc hpar.1
      have hbs := of_decide_eq_true (show decide _ = true from hpar.2)
      refine t_seq ?_
      refine b0 ?_
      refine o1 rfl (det_fieldAddr fld34_2 rfl) rfl rfl trivial ?_
      refine o1 rfl (det_load1 t1_4 rfl rfl (.head _) rfl) rfl rfl trivial ?_
      refine o1 rfl (det_assign rfl) rfl rfl trivial ?_
      refine be rfl ?_
      refine k_then ?_
      refine t_condP Iff.rfl rfl (fun hb => ?_) (fun hb => ?_)
      ·
        have hpe : c.pe = true := hb
        refine t_merge (env0 := [(2, _)]) ⟨rfl, trivial⟩ 3 (.bool (okG c.ad.es c.ad.cyc && decide (-1099511627776 ≤ c.wh ∧ c.wh ≤ 2199023255552) && decide ((c.wh - c.base) % c.op.cyc = 0))) ?_ (fun hK => ?_)
        ·
          refine k_blk ?_
          refine k_then ?_
          refine t_seq ?_
          refine t_seq ?_
          refine b0 ?_
          refine o1 rfl (det_move rfl) rfl rfl trivial ?_
          refine o1 rfl (det_not rfl) rfl rfl trivial ?_
          refine be rfl ?_
          refine k_then ?_
          refine t_condP not_iff_false rfl (fun hb => ?_) (fun hb => ?_)
          ·
            skip
            refine t_seq ?_
            refine b0 ?_
            refine o1 rfl (det_assign rfl) rfl rfl trivial ?_
            refine be rfl ?_
            refine k_then ?_
            refine t_ret (k_thenR (?_))
            refine ret_tmp rfl rfl rfl (fun w1 hs => ?_)
            exact ⟨by unfold checkC okC; grind, hs.keep⟩
          ·
            skip
            refine t_skip ?_
            refine k_then ?_
            refine t_seq ?_
            refine b0 ?_
            refine o1 rfl (det_assign rfl) rfl rfl trivial ?_
            refine be rfl ?_
            refine k_then ?_
            refine t_ret ?_
            refine ret_tmp rfl rfl rfl (fun w1 hs => ?_)
            exact ⟨by unfold checkC okC; grind, hs.keep⟩
        ·
          refine b0 ?_
          refine o1 rfl (det_fieldAddr fld34_3 rfl) rfl rfl trivial ?_
          refine o1 rfl (det_loadN tN30 rfl rfl (.head _) rfl) rfl rfl trivial ?_
          refine o1 rfl (det_call hb48 rfl rfl (fun w1 hs => check_ok hs.know hC.ad)) rfl rfl trivial ?_
          refine o1 rfl (det_eql rfl rfl) rfl rfl trivial ?_
          refine o2P beq_iff_eq rfl (det_move rfl) rfl rfl trivial (fun hb => ?_) (fun hb => ?_)
          ·
            refine o1 rfl (det_fieldAddr fld34_4 rfl) rfl rfl ⟨_, rfl, rfl⟩ ?_
            refine o1 rfl (det_load1 t1_3 rfl rfl (.head _) rfl) rfl rfl ⟨_, rfl, rfl⟩ ?_
            refine o1 rfl (det_geq rfl rfl) rfl rfl ⟨_, rfl, rfl⟩ ?_
            refine o1 rfl (det_pickT rfl rfl) rfl rfl trivial ?_
            refine o2P decide_eq_true_iff rfl (det_move rfl) rfl rfl trivial (fun hb => ?_) (fun hb => ?_)
            ·
              refine o1 rfl (det_fieldAddr fld34_4 rfl) rfl rfl ⟨_, rfl, rfl⟩ ?_
              refine o1 rfl (det_load1 t1_3 rfl rfl (.head _) rfl) rfl rfl ⟨_, rfl, rfl⟩ ?_
              refine o1 rfl (det_leq rfl rfl) rfl rfl ⟨_, rfl, rfl⟩ ?_
              refine o1 rfl (det_pickT rfl rfl) rfl rfl trivial ?_
              refine o2P decide_eq_true_iff rfl (det_move rfl) rfl rfl trivial (fun hb => ?_) (fun hb => ?_)
              ·
                refine o1 rfl (det_fieldAddr fld34_4 rfl) rfl rfl ⟨_, rfl, rfl⟩ ?_
                refine o1 rfl (det_load1 t1_3 rfl rfl (.head _) rfl) rfl rfl ⟨_, rfl, rfl⟩ ?_
                refine o1 rfl (det_fieldAddr fld34_1 rfl) rfl rfl ⟨_, rfl, rfl⟩ ?_
                refine o1 rfl (det_load1 t1_3 rfl rfl (.head _) rfl) rfl rfl ⟨_, rfl, rfl⟩ ?_
                first | (refine o1 rfl (det_subI rfl rfl ?_) rfl rfl ⟨_, rfl, rfl⟩ ?_; (· omega)) | refine o1 rfl (det_sub rfl rfl) rfl rfl ⟨_, rfl, rfl⟩ ?_
                refine o1 rfl (det_fieldAddr fld34_0 rfl) rfl rfl ⟨_, rfl, rfl⟩ ?_
                refine o1 rfl (det_fieldAddr fld30_1 rfl) rfl rfl ⟨_, rfl, rfl⟩ ?_
                refine o1 rfl (det_load1 t1_3 rfl rfl (.head _) rfl) rfl rfl ⟨_, rfl, rfl⟩ ?_
                refine o1 rfl (det_call hb50 rfl rfl (fun w1 hs => mod_ok hs.know hcy (by omega))) rfl rfl ⟨_, rfl, rfl⟩ ?_
                refine o1 rfl (det_eql rfl rfl) rfl rfl ⟨_, rfl, rfl⟩ ?_
                refine o1 rfl (det_pickT rfl rfl) rfl rfl trivial ?_
                refine o1 rfl (det_assign rfl) rfl rfl trivial ?_
                refine be rfl ?_
                refine tk_drop ?_ (.refl _) hK
                exact ⟨(mb rfl (by grind)), rfl, trivial⟩
              ·
                refine on rfl rfl rfl ⟨_, rfl, .inl rfl⟩ ?_
                refine on rfl rfl rfl ⟨_, rfl, .inl rfl⟩ ?_
                refine on rfl rfl rfl ⟨_, rfl, .inl rfl⟩ ?_
                refine on rfl rfl rfl ⟨_, rfl, .inl rfl⟩ ?_
                refine on rfl rfl rfl ⟨_, rfl, .inl rfl⟩ ?_
                refine on rfl rfl rfl ⟨_, rfl, .inl rfl⟩ ?_
                refine on rfl rfl rfl ⟨_, rfl, .inl rfl⟩ ?_
                refine on rfl rfl rfl ⟨_, rfl, .inl rfl⟩ ?_
                refine on rfl rfl rfl ⟨_, rfl, .inl rfl⟩ ?_
                refine on rfl rfl rfl ⟨_, rfl, .inl rfl⟩ ?_
                refine o1 rfl (det_pickF rfl rfl) rfl rfl trivial ?_
                refine o1 rfl (det_assign rfl) rfl rfl trivial ?_
                refine be rfl ?_
                refine tk_drop ?_ (.refl _) hK
                exact ⟨(mb rfl (by grind)), rfl, trivial⟩
            ·
              refine on rfl rfl rfl ⟨_, rfl, .inl rfl⟩ ?_
              refine on rfl rfl rfl ⟨_, rfl, .inl rfl⟩ ?_
              refine on rfl rfl rfl ⟨_, rfl, .inl rfl⟩ ?_
              refine o1 rfl (det_pickF rfl rfl) rfl rfl trivial ?_
              refine o1 rfl (det_move rfl) rfl rfl trivial ?_
              refine on rfl rfl rfl ⟨_, rfl, .inl rfl⟩ ?_
              refine on rfl rfl rfl ⟨_, rfl, .inl rfl⟩ ?_
              refine on rfl rfl rfl ⟨_, rfl, .inl rfl⟩ ?_
              refine on rfl rfl rfl ⟨_, rfl, .inl rfl⟩ ?_
              refine on rfl rfl rfl ⟨_, rfl, .inl rfl⟩ ?_
              refine on rfl rfl rfl ⟨_, rfl, .inl rfl⟩ ?_
              refine on rfl rfl rfl ⟨_, rfl, .inl rfl⟩ ?_
              refine on rfl rfl rfl ⟨_, rfl, .inl rfl⟩ ?_
              refine on rfl rfl rfl ⟨_, rfl, .inl rfl⟩ ?_
              refine on rfl rfl rfl ⟨_, rfl, .inl rfl⟩ ?_
              refine o1 rfl (det_pickF rfl rfl) rfl rfl trivial ?_
              refine o1 rfl (det_assign rfl) rfl rfl trivial ?_
              refine be rfl ?_
              refine tk_drop ?_ (.refl _) hK
              exact ⟨(mb rfl (by grind)), rfl, trivial⟩
          ·
            refine on rfl rfl rfl ⟨_, rfl, .inl rfl⟩ ?_
            refine on rfl rfl rfl ⟨_, rfl, .inl rfl⟩ ?_
            refine on rfl rfl rfl ⟨_, rfl, .inl rfl⟩ ?_
            refine o1 rfl (det_pickF rfl rfl) rfl rfl trivial ?_
            refine o1 rfl (det_move rfl) rfl rfl trivial ?_
            refine on rfl rfl rfl ⟨_, rfl, .inl rfl⟩ ?_
            refine on rfl rfl rfl ⟨_, rfl, .inl rfl⟩ ?_
            refine on rfl rfl rfl ⟨_, rfl, .inl rfl⟩ ?_
            refine o1 rfl (det_pickF rfl rfl) rfl rfl trivial ?_
            refine o1 rfl (det_move rfl) rfl rfl trivial ?_
            refine on rfl rfl rfl ⟨_, rfl, .inl rfl⟩ ?_
            refine on rfl rfl rfl ⟨_, rfl, .inl rfl⟩ ?_
            refine on rfl rfl rfl ⟨_, rfl, .inl rfl⟩ ?_
            refine on rfl rfl rfl ⟨_, rfl, .inl rfl⟩ ?_
            refine on rfl rfl rfl ⟨_, rfl, .inl rfl⟩ ?_
            refine on rfl rfl rfl ⟨_, rfl, .inl rfl⟩ ?_
            refine on rfl rfl rfl ⟨_, rfl, .inl rfl⟩ ?_
            refine on rfl rfl rfl ⟨_, rfl, .inl rfl⟩ ?_
            refine on rfl rfl rfl ⟨_, rfl, .inl rfl⟩ ?_
            refine on rfl rfl rfl ⟨_, rfl, .inl rfl⟩ ?_
            refine o1 rfl (det_pickF rfl rfl) rfl rfl trivial ?_
            refine o1 rfl (det_assign rfl) rfl rfl trivial ?_
            refine be rfl ?_
            refine tk_drop ?_ (.refl _) hK
            exact ⟨(mb rfl (by grind)), rfl, trivial⟩
      ·
        have hpe : c.pe = false := by simpa using hb
        refine t_merge (env0 := [(2, _)]) ⟨rfl, trivial⟩ 3 (.bool (decide (c.ad.es = [] ∧ c.ad.cyc = 0 ∧ c.wh = 0))) ?_ (fun hK => ?_)
        ·
          refine k_blk ?_
          refine k_then ?_
          refine t_seq ?_
          refine t_seq ?_
          refine b0 ?_
          refine o1 rfl (det_move rfl) rfl rfl trivial ?_
          refine o1 rfl (det_not rfl) rfl rfl trivial ?_
          refine be rfl ?_
          refine k_then ?_
          refine t_condP not_iff_false rfl (fun hb => ?_) (fun hb => ?_)
          ·
            skip
            refine t_seq ?_
            refine b0 ?_
            refine o1 rfl (det_assign rfl) rfl rfl trivial ?_
            refine be rfl ?_
            refine k_then ?_
            refine t_ret (k_thenR (?_))
            refine ret_tmp rfl rfl rfl (fun w1 hs => ?_)
            exact ⟨by unfold checkC okC; grind, hs.keep⟩
          ·
            skip
            refine t_skip ?_
            refine k_then ?_
            refine t_seq ?_
            refine b0 ?_
            refine o1 rfl (det_assign rfl) rfl rfl trivial ?_
            refine be rfl ?_
            refine k_then ?_
            refine t_ret ?_
            refine ret_tmp rfl rfl rfl (fun w1 hs => ?_)
            exact ⟨by unfold checkC okC; grind, hs.keep⟩
        ·
          refine b0 ?_
          refine o1 rfl (det_fieldAddr fld34_3 rfl) rfl rfl trivial ?_
          refine o1 rfl (det_fieldAddr fld30_0 rfl) rfl rfl trivial ?_
          refine o1 rfl (det_load1 t1_28 rfl rfl (.head _) rfl) rfl rfl trivial ?_
          refine o1 rfl (det_lenS sl28 rfl) rfl rfl trivial ?_
          refine o1 rfl (det_eql rfl rfl) rfl rfl trivial ?_
          refine o2P beq_iff_eq rfl (det_move rfl) rfl rfl trivial (fun hb => ?_) (fun hb => ?_)
          ·
            refine o1 rfl (det_fieldAddr fld34_3 rfl) rfl rfl ⟨_, rfl, rfl⟩ ?_
            refine o1 rfl (det_fieldAddr fld30_1 rfl) rfl rfl ⟨_, rfl, rfl⟩ ?_
            refine o1 rfl (det_load1 t1_3 rfl rfl (.head _) rfl) rfl rfl ⟨_, rfl, rfl⟩ ?_
            refine o1 rfl (det_eql rfl rfl) rfl rfl ⟨_, rfl, rfl⟩ ?_
            refine o1 rfl (det_pickT rfl rfl) rfl rfl trivial ?_
            refine o2P beq_iff_eq rfl (det_move rfl) rfl rfl trivial (fun hb => ?_) (fun hb => ?_)
            ·
              refine o1 rfl (det_fieldAddr fld34_4 rfl) rfl rfl ⟨_, rfl, rfl⟩ ?_
              refine o1 rfl (det_load1 t1_3 rfl rfl (.head _) rfl) rfl rfl ⟨_, rfl, rfl⟩ ?_
              refine o1 rfl (det_eql rfl rfl) rfl rfl ⟨_, rfl, rfl⟩ ?_
              refine o1 rfl (det_pickT rfl rfl) rfl rfl trivial ?_
              refine o1 rfl (det_assign rfl) rfl rfl trivial ?_
              refine be rfl ?_
              refine tk_drop ?_ (.refl _) hK
              exact ⟨(mb rfl (by have := hC.ad.len; have := List.length_eq_zero_iff (l := c.ad.es); grind)), rfl, trivial⟩
            ·
              refine on rfl rfl rfl ⟨_, rfl, .inl rfl⟩ ?_
              refine on rfl rfl rfl ⟨_, rfl, .inl rfl⟩ ?_
              refine on rfl rfl rfl ⟨_, rfl, .inl rfl⟩ ?_
              refine o1 rfl (det_pickF rfl rfl) rfl rfl trivial ?_
              refine o1 rfl (det_assign rfl) rfl rfl trivial ?_
              refine be rfl ?_
              refine tk_drop ?_ (.refl _) hK
              exact ⟨(mb rfl (by have := hC.ad.len; have := List.length_eq_zero_iff (l := c.ad.es); grind)), rfl, trivial⟩
          ·
            refine on rfl rfl rfl ⟨_, rfl, .inl rfl⟩ ?_
            refine on rfl rfl rfl ⟨_, rfl, .inl rfl⟩ ?_
            refine on rfl rfl rfl ⟨_, rfl, .inl rfl⟩ ?_
            refine on rfl rfl rfl ⟨_, rfl, .inl rfl⟩ ?_
            refine o1 rfl (det_pickF rfl rfl) rfl rfl trivial ?_
            refine o1 rfl (det_move rfl) rfl rfl trivial ?_
            refine on rfl rfl rfl ⟨_, rfl, .inl rfl⟩ ?_
            refine on rfl rfl rfl ⟨_, rfl, .inl rfl⟩ ?_
            refine on rfl rfl rfl ⟨_, rfl, .inl rfl⟩ ?_
            refine o1 rfl (det_pickF rfl rfl) rfl rfl trivial ?_
            refine o1 rfl (det_assign rfl) rfl rfl trivial ?_
            refine be rfl ?_
            refine tk_drop ?_ (.refl _) hK
            exact ⟨(mb rfl (by have := hC.ad.len; have := List.length_eq_zero_iff (l := c.ad.es); grind)), rfl, trivial⟩
  ·
    refine b0 ?_
    refine o1 rfl (det_fieldAddr fld34_0 rfl) rfl rfl trivial ?_
    refine o1 rfl (det_loadN tN30 rfl rfl (.head _) rfl) rfl rfl trivial ?_
    refine o1 rfl (det_call hb48 rfl rfl (fun w1 hs => check_ok hs.know hC.op)) rfl rfl trivial ?_
    refine o1 rfl (det_eql rfl rfl) rfl rfl trivial ?_
    refine o2P beq_iff_eq rfl (det_move rfl) rfl rfl trivial (fun hb => ?_) (fun hb => ?_)
    ·
      refine o1 rfl (det_fieldAddr fld34_1 rfl) rfl rfl ⟨_, rfl, rfl⟩ ?_
      refine o1 rfl (det_load1 t1_3 rfl rfl (.head _) rfl) rfl rfl ⟨_, rfl, rfl⟩ ?_
      refine om1 rfl (new_buildSlice rfl (fun w => bsl105_1_0 _ w)) rfl rfl ⟨_, rfl, rfl⟩ (fun p11 => ?_)
      refine tk_freeze (pre := []) rfl (fun F2 hF2 hNF2 hKF2 => ?_)
      have hX : IntsA F2 (some ⟨p11, 0, none⟩) 1 [c.base] := intsA_lit (xs := [c.base]) hKF2
      refine o1 rfl (det_call hb49 rfl rfl (fun w1 hs => times_ok hs.know hX (by decide))) rfl rfl ⟨_, rfl, rfl⟩ ?_
      refine o1 rfl (det_eql rfl rfl) rfl rfl ⟨_, rfl, rfl⟩ ?_
      refine o1 rfl (det_pickT rfl rfl) rfl rfl trivial ?_
      refine o1 rfl (det_assign rfl) rfl rfl trivial ?_
      refine be rfl ?_
      refine tk_less (fun _ _ h => (hF2 _ _ h)) (tk_drop ?_ (.refl _) hK)
      exact ⟨(mb rfl (by simp only [List.all_cons, List.all_nil, Bool.and_true] at *; grind)), rfl, rfl, trivial⟩
    ·
      refine on rfl rfl rfl ⟨_, rfl, .inl rfl⟩ ?_
      refine on rfl rfl rfl ⟨_, rfl, .inl rfl⟩ ?_
      refine on rfl rfl rfl ⟨_, rfl, .inl rfl⟩ ?_
      refine on rfl rfl rfl ⟨_, rfl, .inl rfl⟩ ?_
      refine on rfl rfl rfl ⟨_, rfl, .inl rfl⟩ ?_
      refine o1 rfl (det_pickF rfl rfl) rfl rfl trivial ?_
      refine o1 rfl (det_assign rfl) rfl rfl trivial ?_
      refine be rfl ?_
      refine tk_drop ?_ (.refl _) hK
      exact ⟨(mb rfl (by simp only [List.all_cons, List.all_nil, Bool.and_true] at *; grind)), rfl, rfl, trivial⟩

end Go.Proofs.Sw
