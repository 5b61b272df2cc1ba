/-
  The texts CpP8 to CpP14, one after the other.
-/
import Derived.Test.YtffocfffggfenaaCpP3ToCpC16PportKnownhol
import Derived.Test.YtffocfffggfenaaEng25ToEng34PportKnownhol
import Derived.Test.YtffocfffggfenaaGtPlainToPoPlain14PportKnownhol
/-
  Walks through layer 38.
-/
namespace Go.Proofs.Cp
open Go Go.Eng Go.Gt Go.Proofs.Gt Go.Sw Go.Qu Go.Ch Go.Po
set_option maxRecDepth 4000
theorem pat_ok {w : World} {F : Know} (hF : ∀ a v, F a = some v → w.cell? a = some v) {q : Nat} {p : Ps} {B G : Option Addr} {m d k gk : Nat} {t : Int} (haway : ∀ a v, F a = some v → a.block ∉ idsO ([(q, .cells (pev p B m d G k gk).toArray 125 (0, 0))])) (hnd : (idsO ([(q, .cells (pev p B m d G k gk).toArray 125 (0, 0))])).Nodup) (hown : ∀ y ∈ ([(q, .cells (pev p B m d G k gk).toArray 125 (0, 0))] : Own), w.heap[y.1]? = some y.2) : CallsM Try.prog 83 [.pointer (some ⟨q, 0, none⟩), .int .i64 t] w F ([(q, .cells (pev p B m d G k gk).toArray 125 (0, 0))]) (fun v cp1 F2 => v = .int .i64 (if atB p t then 0 else 2) ∧ cp1 = [(q, .cells (pev (if atB p t then stayS p t else p) B m d G k gk).toArray 125 (0, 0))]) := by
  refine fn_m (F := F) Try.func83 rfl Try.ntmps83 rfl hF haway hnd hown ?_
  refine t_seq ?_
  refine b0 ?_
  refine o1 rfl (det_assign rfl) rfl rfl trivial ?_
  refine be rfl ?_
  refine k_then ?_
  refine t_seq ?_
  refine t_seq ?_
  refine b0 ?_
  refine o1 rfl (det_move rfl) rfl rfl trivial ?_
  refine o1 rfl (det_move rfl) rfl rfl trivial ?_
  refine o1 rfl (det_nilCheck rfl) rfl rfl trivial ?_
  refine o1 rfl (det_fieldAddr fld125_0 rfl) rfl rfl trivial ?_
  refine o1 rfl (det_fieldAddr fld68_1 rfl) rfl rfl trivial ?_
  refine o1 rfl (det_load1 t1_3 rfl rfl (.head _) rfl) rfl rfl trivial ?_
  refine o1 rfl (det_lss rfl rfl) rfl rfl trivial ?_
  refine o2P decide_eq_true_iff rfl (det_move rfl) rfl rfl trivial (fun hb => ?_) (fun hb => ?_)
  ·
    refine on rfl rfl rfl ⟨_, rfl, .inl rfl⟩ ?_
    refine on rfl rfl rfl ⟨_, rfl, .inl rfl⟩ ?_
    refine o1 rfl (det_pickT rfl rfl) rfl rfl trivial ?_
    refine o1 rfl (det_move rfl) rfl rfl trivial ?_
    refine on rfl rfl rfl ⟨_, rfl, .inl rfl⟩ ?_
    refine on rfl rfl rfl ⟨_, rfl, .inl rfl⟩ ?_
    refine on rfl rfl rfl ⟨_, rfl, .inl rfl⟩ ?_
    refine on rfl rfl rfl ⟨_, rfl, .inl rfl⟩ ?_
    refine on rfl rfl rfl ⟨_, rfl, .inl rfl⟩ ?_
    refine on rfl rfl rfl ⟨_, rfl, .inl rfl⟩ ?_
    refine on rfl rfl rfl ⟨_, rfl, .inr rfl⟩ ?_
    refine on rfl rfl rfl ⟨_, rfl, .inr rfl⟩ ?_
    refine on rfl rfl rfl ⟨_, rfl, .inr rfl⟩ ?_
    refine on rfl rfl rfl ⟨_, rfl, .inr rfl⟩ ?_
    refine on rfl rfl rfl ⟨_, rfl, .inr rfl⟩ ?_
    refine on rfl rfl rfl ⟨_, rfl, .inr rfl⟩ ?_
    refine on rfl rfl rfl ⟨_, rfl, .inr rfl⟩ ?_
    refine on rfl rfl rfl ⟨_, rfl, .inl rfl⟩ ?_
    refine o1 rfl (det_pickT rfl rfl) rfl rfl trivial ?_
    refine be rfl ?_
    refine k_then ?_
    refine t_condT rfl ?_
    refine t_seq ?_
    refine b0 ?_
    refine o1 rfl (det_assign rfl) rfl rfl trivial ?_
    refine be rfl ?_
    refine k_then ?_
    refine t_ret (k_thenR (?_))
    refine ret_tmp rfl rfl rfl (fun w1 hs => ?_)
    first
    | (have hA : atB p t = false := by unfold atB; grind)
      exact end_m (bs := []) (cp' := [_]) (.refl _) hs rfl fun F2 _ _ _ => ⟨by rw [hA]; rfl, by rw [hA]; rfl⟩
    | (have hA : atB p t = true := by unfold atB; grind)
      exact end_m (bs := []) (cp' := [_]) (.refl _) hs rfl fun F2 _ _ _ => ⟨by rw [hA]; rfl, by rw [hA]; rfl⟩
  ·
    refine o1 rfl (det_move rfl) rfl rfl ⟨_, rfl, rfl⟩ ?_
    refine o1 rfl (det_gtr rfl rfl) rfl rfl ⟨_, rfl, rfl⟩ ?_
    refine o1 rfl (det_pickF rfl rfl) rfl rfl trivial ?_
    refine o2P decide_eq_true_iff rfl (det_move rfl) rfl rfl trivial (fun hb => ?_) (fun hb => ?_)
    ·
      refine on rfl rfl rfl ⟨_, rfl, .inl rfl⟩ ?_
      refine on rfl rfl rfl ⟨_, rfl, .inl rfl⟩ ?_
      refine on rfl rfl rfl ⟨_, rfl, .inl rfl⟩ ?_
      refine on rfl rfl rfl ⟨_, rfl, .inl rfl⟩ ?_
      refine on rfl rfl rfl ⟨_, rfl, .inl rfl⟩ ?_
      refine on rfl rfl rfl ⟨_, rfl, .inl rfl⟩ ?_
      refine on rfl rfl rfl ⟨_, rfl, .inr rfl⟩ ?_
      refine on rfl rfl rfl ⟨_, rfl, .inr rfl⟩ ?_
      refine on rfl rfl rfl ⟨_, rfl, .inr rfl⟩ ?_
      refine on rfl rfl rfl ⟨_, rfl, .inr rfl⟩ ?_
      refine on rfl rfl rfl ⟨_, rfl, .inr rfl⟩ ?_
      refine on rfl rfl rfl ⟨_, rfl, .inr rfl⟩ ?_
      refine on rfl rfl rfl ⟨_, rfl, .inr rfl⟩ ?_
      refine on rfl rfl rfl ⟨_, rfl, .inl rfl⟩ ?_
      refine o1 rfl (det_pickT rfl rfl) rfl rfl trivial ?_
      refine be rfl ?_
      refine k_then ?_
      refine t_condT rfl ?_
      refine t_seq ?_
      refine b0 ?_
      refine o1 rfl (det_assign rfl) rfl rfl trivial ?_
      refine be rfl ?_
      refine k_then ?_
      refine t_ret (k_thenR (?_))
      refine ret_tmp rfl rfl rfl (fun w1 hs => ?_)
      first
      | (have hA : atB p t = false := by unfold atB; grind)
        exact end_m (bs := []) (cp' := [_]) (.refl _) hs rfl fun F2 _ _ _ => ⟨by rw [hA]; rfl, by rw [hA]; rfl⟩
      | (have hA : atB p t = true := by unfold atB; grind)
        exact end_m (bs := []) (cp' := [_]) (.refl _) hs rfl fun F2 _ _ _ => ⟨by rw [hA]; rfl, by rw [hA]; rfl⟩
    ·
      refine o1 rfl (det_move rfl) rfl rfl ⟨_, rfl, rfl⟩ ?_
      refine o1 rfl (det_nilCheck rfl) rfl rfl ⟨_, rfl, rfl⟩ ?_
      refine o1 rfl (det_fieldAddr fld125_0 rfl) rfl rfl ⟨_, rfl, rfl⟩ ?_
      refine o1 rfl (det_fieldAddr fld68_3 rfl) rfl rfl ⟨_, rfl, rfl⟩ ?_
      refine o1 rfl (det_load1 t1_4 rfl rfl (.head _) rfl) rfl rfl ⟨_, rfl, rfl⟩ ?_
      refine o2P Iff.rfl rfl (det_move rfl) rfl rfl ⟨_, rfl, rfl⟩ (fun hb => ?_) (fun hb => ?_)
      ·
        refine o1 rfl (det_move rfl) rfl rfl ⟨_, rfl, rfl⟩ ?_
        refine o1 rfl (det_move rfl) rfl rfl ⟨_, rfl, rfl⟩ ?_
        refine o1 rfl (det_nilCheck rfl) rfl rfl ⟨_, rfl, rfl⟩ ?_
        refine o1 rfl (det_fieldAddr fld125_0 rfl) rfl rfl ⟨_, rfl, rfl⟩ ?_
        refine o1 rfl (det_fieldAddr fld68_6 rfl) rfl rfl ⟨_, rfl, rfl⟩ ?_
        refine o1 rfl (det_load1 t1_3 rfl rfl (.head _) rfl) rfl rfl ⟨_, rfl, rfl⟩ ?_
        refine o1 rfl (det_gtr rfl rfl) rfl rfl ⟨_, rfl, rfl⟩ ?_
        refine o1 rfl (det_pickT rfl rfl) rfl rfl ⟨_, rfl, rfl⟩ ?_
        refine o1 rfl (det_pickF rfl rfl) rfl rfl trivial ?_
        refine be rfl ?_
        refine k_then ?_
        refine t_condP decide_eq_true_iff rfl (fun hb => ?_) (fun hb => ?_)
        ·
          refine t_seq ?_
          refine b0 ?_
          refine o1 rfl (det_assign rfl) rfl rfl trivial ?_
          refine be rfl ?_
          refine k_then ?_
          refine t_ret (k_thenR (?_))
          refine ret_tmp rfl rfl rfl (fun w1 hs => ?_)
          first
          | (have hA : atB p t = false := by unfold atB; grind)
            exact end_m (bs := []) (cp' := [_]) (.refl _) hs rfl fun F2 _ _ _ => ⟨by rw [hA]; rfl, by rw [hA]; rfl⟩
          | (have hA : atB p t = true := by unfold atB; grind)
            exact end_m (bs := []) (cp' := [_]) (.refl _) hs rfl fun F2 _ _ _ => ⟨by rw [hA]; rfl, by rw [hA]; rfl⟩
        ·
          refine t_skip ?_
          refine k_then ?_
          refine t_seq ?_
          refine b0 ?_
          refine o1 rfl (det_move rfl) rfl rfl trivial ?_
          refine o1 rfl (det_move rfl) rfl rfl trivial ?_
          refine o1 rfl (det_nilCheck rfl) rfl rfl trivial ?_
          refine o1 rfl (det_fieldAddr fld125_0 rfl) rfl rfl trivial ?_
          refine o1 rfl (det_fieldAddr fld68_1 rfl) rfl rfl trivial ?_
          refine st1 nofun rfl t1_3 rfl rfl rfl .head rfl trivial rfl ?_
          refine be rfl ?_
          refine k_then ?_
          refine t_seq ?_
          refine b0 ?_
          refine o1 rfl (det_assign rfl) rfl rfl trivial ?_
          refine be rfl ?_
          refine k_then ?_
          refine t_ret ?_
          refine ret_tmp rfl rfl rfl (fun w1 hs => ?_)
          first
          | (have hA : atB p t = false := by unfold atB; grind)
            exact end_m (bs := []) (cp' := [_]) (.refl _) hs rfl fun F2 _ _ _ => ⟨by rw [hA]; rfl, by rw [hA]; rfl⟩
          | (have hA : atB p t = true := by unfold atB; grind)
            exact end_m (bs := []) (cp' := [_]) (.refl _) hs rfl fun F2 _ _ _ => ⟨by rw [hA]; rfl, by rw [hA]; rfl⟩
      ·
        refine on rfl rfl rfl ⟨_, rfl, .inl rfl⟩ ?_
        refine on rfl rfl rfl ⟨_, rfl, .inl rfl⟩ ?_
        refine on rfl rfl rfl ⟨_, rfl, .inl rfl⟩ ?_
        refine on rfl rfl rfl ⟨_, rfl, .inl rfl⟩ ?_
        refine on rfl rfl rfl ⟨_, rfl, .inl rfl⟩ ?_
        refine on rfl rfl rfl ⟨_, rfl, .inl rfl⟩ ?_
        refine on rfl rfl rfl ⟨_, rfl, .inl rfl⟩ ?_
        refine o1 rfl (det_pickF rfl rfl) rfl rfl ⟨_, rfl, rfl⟩ ?_
        refine o1 rfl (det_pickF rfl rfl) rfl rfl trivial ?_
        refine be rfl ?_
        refine k_then ?_
        refine t_condF rfl ?_
        refine t_skip ?_
        refine k_then ?_
        refine t_seq ?_
        refine b0 ?_
        refine o1 rfl (det_move rfl) rfl rfl trivial ?_
        refine o1 rfl (det_move rfl) rfl rfl trivial ?_
        refine o1 rfl (det_nilCheck rfl) rfl rfl trivial ?_
        refine o1 rfl (det_fieldAddr fld125_0 rfl) rfl rfl trivial ?_
        refine o1 rfl (det_fieldAddr fld68_1 rfl) rfl rfl trivial ?_
        refine st1 nofun rfl t1_3 rfl rfl rfl .head rfl trivial rfl ?_
        refine be rfl ?_
        refine k_then ?_
        refine t_seq ?_
        refine b0 ?_
        refine o1 rfl (det_assign rfl) rfl rfl trivial ?_
        refine be rfl ?_
        refine k_then ?_
        refine t_ret ?_
        refine ret_tmp rfl rfl rfl (fun w1 hs => ?_)
        first
        | (have hA : atB p t = false := by unfold atB; grind)
          exact end_m (bs := []) (cp' := [_]) (.refl _) hs rfl fun F2 _ _ _ => ⟨by rw [hA]; rfl, by rw [hA]; rfl⟩
        | (have hA : atB p t = true := by unfold atB; grind)
          exact end_m (bs := []) (cp' := [_]) (.refl _) hs rfl fun F2 _ _ _ => ⟨by rw [hA]; rfl, by rw [hA]; rfl⟩
theorem ppre_ok {w : World} {F : Know} (hF : ∀ a v, F a = some v → w.cell? a = some v) {q : Nat} {p : Ps} {B G : Option Addr} {m d k gk : Nat} {ms : List Qm} (hK : PsK F p B m d ms) (h8 : p.qs.length = 8) (haway : ∀ a v, F a = some v → a.block ∉ idsO ([(q, .cells (pev p B m d G k gk).toArray 125 (0, 0))])) (hnd : (idsO ([(q, .cells (pev p B m d G k gk).toArray 125 (0, 0))])).Nodup) (hown : ∀ y ∈ ([(q, .cells (pev p B m d G k gk).toArray 125 (0, 0))] : Own), w.heap[y.1]? = some y.2) : CallsM Try.prog 106 [.pointer (some ⟨q, 0, none⟩)] w F ([(q, .cells (pev p B m d G k gk).toArray 125 (0, 0))]) (fun v cp1 F2 => v = .int .i64 (preemptS p).2 ∧ cp1 = [(q, .cells (pev (preemptS p).1 B m d G k gk).toArray 125 (0, 0))]) := by
  refine fn_m (F := F) Try.func106 rfl Try.ntmps106 rfl hF haway hnd hown ?_
  refine t_seq ?_
  refine b0 ?_
  refine o1 rfl (det_assign rfl) rfl rfl trivial ?_
  refine be rfl ?_
  refine k_then ?_
  refine t_seq ?_
  refine t_seq ?_
  refine b0 ?_
  refine o1 rfl (det_move rfl) rfl rfl trivial ?_
  refine o1 rfl (det_nilCheck rfl) rfl rfl trivial ?_
  refine o1 rfl (det_fieldAddr fld125_0 rfl) rfl rfl trivial ?_
  refine o1 rfl (det_fieldAddr fld68_3 rfl) rfl rfl trivial ?_
  refine o1 rfl (det_load1 t1_4 rfl rfl (.head _) rfl) rfl rfl trivial ?_
  refine o1 rfl (det_not rfl) rfl rfl trivial ?_
  refine o2P not_iff_false rfl (det_move rfl) rfl rfl trivial (fun hb => ?_) (fun hb => ?_)
  ·
    refine on rfl rfl rfl ⟨_, rfl, .inl rfl⟩ ?_
    refine on rfl rfl rfl ⟨_, rfl, .inl rfl⟩ ?_
    refine on rfl rfl rfl ⟨_, rfl, .inl rfl⟩ ?_
    refine on rfl rfl rfl ⟨_, rfl, .inl rfl⟩ ?_
    refine on rfl rfl rfl ⟨_, rfl, .inl rfl⟩ ?_
    refine on rfl rfl rfl ⟨_, rfl, .inl rfl⟩ ?_
    refine on rfl rfl rfl ⟨_, rfl, .inl rfl⟩ ?_
    refine o1 rfl (det_pickT rfl rfl) rfl rfl trivial ?_
    refine o1 rfl (det_move rfl) rfl rfl trivial ?_
    refine on rfl rfl rfl ⟨_, rfl, .inl rfl⟩ ?_
    refine on rfl rfl rfl ⟨_, rfl, .inl rfl⟩ ?_
    refine on rfl rfl rfl ⟨_, rfl, .inl rfl⟩ ?_
    refine on rfl rfl rfl ⟨_, rfl, .inl rfl⟩ ?_
    refine on rfl rfl rfl ⟨_, rfl, .inl rfl⟩ ?_
    refine on rfl rfl rfl ⟨_, rfl, .inl rfl⟩ ?_
    refine o1 rfl (det_pickT rfl rfl) rfl rfl trivial ?_
    refine be rfl ?_
    refine k_then ?_
    refine t_condT rfl ?_
    refine t_seq ?_
    refine b0 ?_
    refine o1 rfl (det_assign rfl) rfl rfl trivial ?_
    refine be rfl ?_
    refine k_then ?_
    refine t_ret (k_thenR (?_))
    refine ret_tmp rfl rfl rfl (fun w1 hs => ?_)
    first
    | (exact end_m (bs := []) (cp' := [_]) (.refl _) hs rfl fun F2 _ _ _ => ⟨by rw [hS]; try rfl, by rw [hS]; try rfl⟩)
    | (have hS : preemptS p = (p, 0) := by unfold preemptS; rw [if_pos (by grind)])
      exact end_m (bs := []) (cp' := [_]) (.refl _) hs rfl fun F2 _ _ _ => ⟨by rw [hS]; try rfl, by rw [hS]; try rfl⟩
  ·
    refine o1 rfl (det_move rfl) rfl rfl ⟨_, rfl, rfl⟩ ?_
    refine o1 rfl (det_nilCheck rfl) rfl rfl ⟨_, rfl, rfl⟩ ?_
    refine o1 rfl (det_fieldAddr fld125_0 rfl) rfl rfl ⟨_, rfl, rfl⟩ ?_
    refine o1 rfl (det_fieldAddr fld68_4 rfl) rfl rfl ⟨_, rfl, rfl⟩ ?_
    refine o1 rfl (det_loadN tN57 rfl rfl (.head _) rfl) rfl rfl ⟨_, rfl, rfl⟩ ?_
    refine o1 rfl (det_call hb72 rfl rfl (fun w1 hs => pre1_ok (x := p.snd) hs.know)) rfl rfl ⟨_, rfl, rfl⟩ ?_
    refine o1 rfl (det_not rfl) rfl rfl ⟨_, rfl, rfl⟩ ?_
    refine o1 rfl (det_pickF rfl rfl) rfl rfl trivial ?_
    refine o2P not_iff_false rfl (det_move rfl) rfl rfl trivial (fun hb => ?_) (fun hb => ?_)
    ·
      refine on rfl rfl rfl ⟨_, rfl, .inl rfl⟩ ?_
      refine on rfl rfl rfl ⟨_, rfl, .inl rfl⟩ ?_
      refine on rfl rfl rfl ⟨_, rfl, .inl rfl⟩ ?_
      refine on rfl rfl rfl ⟨_, rfl, .inl rfl⟩ ?_
      refine on rfl rfl rfl ⟨_, rfl, .inl rfl⟩ ?_
      refine on rfl rfl rfl ⟨_, rfl, .inl rfl⟩ ?_
      refine o1 rfl (det_pickT rfl rfl) rfl rfl trivial ?_
      refine be rfl ?_
      refine k_then ?_
      refine t_condT rfl ?_
      refine t_seq ?_
      refine b0 ?_
      refine o1 rfl (det_assign rfl) rfl rfl trivial ?_
      refine be rfl ?_
      refine k_then ?_
      refine t_ret (k_thenR (?_))
      refine ret_tmp rfl rfl rfl (fun w1 hs => ?_)
      first
      | (exact end_m (bs := []) (cp' := [_]) (.refl _) hs rfl fun F2 _ _ _ => ⟨by rw [hS]; try rfl, by rw [hS]; try rfl⟩)
      | (have hS : preemptS p = (p, 0) := by unfold preemptS; rw [if_pos (by grind)])
        exact end_m (bs := []) (cp' := [_]) (.refl _) hs rfl fun F2 _ _ _ => ⟨by rw [hS]; try rfl, by rw [hS]; try rfl⟩
    ·
      refine o1 rfl (det_move rfl) rfl rfl ⟨_, rfl, rfl⟩ ?_
      refine o1 rfl (det_nilCheck rfl) rfl rfl ⟨_, rfl, rfl⟩ ?_
      refine o1 rfl (det_fieldAddr fld125_0 rfl) rfl rfl ⟨_, rfl, rfl⟩ ?_
      refine o1 rfl (det_fieldAddr fld68_7 rfl) rfl rfl ⟨_, rfl, rfl⟩ ?_
      refine o1 rfl (det_load1 t1_3 rfl rfl (.head _) rfl) rfl rfl ⟨_, rfl, rfl⟩ ?_
      refine o1 rfl (det_gtr rfl rfl) rfl rfl ⟨_, rfl, rfl⟩ ?_
      refine o1 rfl (det_pickF rfl rfl) rfl rfl trivial ?_
      refine be rfl ?_
      refine k_then ?_
      refine t_condP decide_eq_true_iff rfl (fun hb => ?_) (fun hb => ?_)
      ·
        have hS : preemptS p = (p, 0) := by unfold preemptS; rw [if_pos (by grind)]
        refine t_seq ?_
        refine b0 ?_
        refine o1 rfl (det_assign rfl) rfl rfl trivial ?_
        refine be rfl ?_
        refine k_then ?_
        refine t_ret (k_thenR (?_))
        refine ret_tmp rfl rfl rfl (fun w1 hs => ?_)
        first
        | (exact end_m (bs := []) (cp' := [_]) (.refl _) hs rfl fun F2 _ _ _ => ⟨by rw [hS]; try rfl, by rw [hS]; try rfl⟩)
        | (have hS : preemptS p = (p, 0) := by unfold preemptS; rw [if_pos (by grind)])
          exact end_m (bs := []) (cp' := [_]) (.refl _) hs rfl fun F2 _ _ _ => ⟨by rw [hS]; try rfl, by rw [hS]; try rfl⟩
      ·
        have hn : ¬ (p.busy = false ∨ ¬ p.snd.it.cl < 6 ∨ 0 < p.rest) := by grind
        refine t_skip ?_
        refine k_then ?_
        refine t_seq ?_
        refine bD mixed ?_
        refine r_segF 31 31 [] [(6, Go.Eng.Told F (fun v F2 => ∃ q6 : Nat, v = .slice (some ⟨q6, 0, none⟩) 8 8 ∧ PK F2 (some ⟨q6, 0, none⟩) 8 (headsS p)))] [0, 1, 2, 3, 4, 5, 6, 7, 8, 9, 10, 11, 12, 13, 14, 15, 16, 17, 18, 19, 20, 21, 22, 23, 24, 25, 26, 27, 28, 29, 30] (by kernel_rfl) ?_
        obtain ⟨x, y, z, hr⟩ : ∃ x y z, preA p.l (headsS p) p.snd.left p.began p.now = (x, y, z) := ⟨_, _, _, rfl⟩
        refine s1 rfl (det_move rfl) rfl rfl trivial rfl ?_
        refine s1 rfl (det_nilCheck rfl) rfl rfl trivial rfl ?_
        refine s1 rfl (det_fieldAddr fld125_0 rfl) rfl rfl trivial rfl ?_
        refine s1 rfl (det_fieldAddr fld68_0 rfl) rfl rfl trivial rfl ?_
        refine s1 rfl (det_loadN tN26 rfl rfl (.head _) rfl) rfl rfl trivial rfl ?_
        refine s1 rfl (det_move rfl) rfl rfl trivial rfl ?_
        refine sM [] need0 rfl (fun F2 hF2 hN => mem_call hF2 hb108 rfl rfl (fun w1 hs => (pheads_ok (F := fun a => w1.cell? a) (fun _ _ h => h) (p := p) (B := B) (m := m) (d := d) (G := G) (k := k) (gk := gk) (satCs hs (cs := pev p B m d G k gk) (T := 125) (by first | exact .head _ | exact .tail _ (.head _) | exact .tail _ (.tail _ (.head _)) | exact .tail _ (.tail _ (.tail _ (.head _))) | exact .tail _ (.tail _ (.tail _ (.tail _ (.head _)))) | exact .tail _ (.tail _ (.tail _ (.tail _ (.tail _ (.head _))))) | exact .tail _ (.tail _ (.tail _ (.tail _ (.tail _ (.tail _ (.head _)))))) | exact .tail _ (.tail _ (.tail _ (.tail _ (.tail _ (.tail _ (.tail _ (.head _))))))) | exact .tail _ (.tail _ (.tail _ (.tail _ (.tail _ (.tail _ (.tail _ (.tail _ (.head _)))))))) | exact .tail _ (.tail _ (.tail _ (.tail _ (.tail _ (.tail _ (.tail _ (.tail _ (.tail _ (.head _)))))))))) rfl) ((hK.mono hF2).mono hs.know) h8).any)) rfl rfl trivial rfl (fun v36 hv36 => ?_)
        obtain ⟨_, q_36, rfl, -⟩ := hv36
        refine s1 rfl (det_move rfl) rfl rfl trivial rfl ?_
        refine s1 rfl (det_nilCheck rfl) rfl rfl trivial rfl ?_
        refine s1 rfl (det_fieldAddr fld125_0 rfl) rfl rfl trivial rfl ?_
        refine s1 rfl (det_fieldAddr fld68_4 rfl) rfl rfl trivial rfl ?_
        refine s1 rfl (det_fieldAddr fld57_1 rfl) rfl rfl trivial rfl ?_
        refine s1 rfl (det_load1 t1_3 rfl rfl (.head _) rfl) rfl rfl trivial rfl ?_
        refine s1 rfl (det_move rfl) rfl rfl trivial rfl ?_
        refine s1 rfl (det_nilCheck rfl) rfl rfl trivial rfl ?_
        refine s1 rfl (det_fieldAddr fld125_0 rfl) rfl rfl trivial rfl ?_
        refine s1 rfl (det_fieldAddr fld68_5 rfl) rfl rfl trivial rfl ?_
        refine s1 rfl (det_load1 t1_3 rfl rfl (.head _) rfl) rfl rfl trivial rfl ?_
        refine s1 rfl (det_move rfl) rfl rfl trivial rfl ?_
        refine s1 rfl (det_nilCheck rfl) rfl rfl trivial rfl ?_
        refine s1 rfl (det_fieldAddr fld125_0 rfl) rfl rfl trivial rfl ?_
        refine s1 rfl (det_fieldAddr fld68_1 rfl) rfl rfl trivial rfl ?_
        refine s1 rfl (det_load1 t1_3 rfl rfl (.head _) rfl) rfl rfl trivial rfl ?_
        refine s1N [_] (needC (.head _) rfl need0) rfl (fun F2 hF2 hN => det_call hb28 rfl rfl (fun w1 hs => (by obtain ⟨q9, hq, h9⟩ := hN _ (.head _); cases hq; exact pre_at hs.know (EntK.mono hK.line hF2) h9 (by decide) hr))) rfl rfl trivial rfl ?_
        refine s1 rfl (det_move rfl) rfl rfl trivial rfl ?_
        refine s1 rfl (det_extract rfl rfl) rfl rfl trivial rfl ?_
        refine s1 rfl (det_extract rfl rfl) rfl rfl trivial rfl ?_
        refine s1 rfl (det_extract rfl rfl) rfl rfl trivial rfl ?_
        refine s1 rfl (det_assign rfl) rfl rfl trivial rfl ?_
        refine s1 rfl (det_assign rfl) rfl rfl trivial rfl ?_
        refine s1 rfl (det_assign rfl) rfl rfl trivial rfl ?_
        refine sg_nil ?_
        rintro F_3_31 hF_3_31 hN_3_31 ⟨hR36, -⟩
        obtain ⟨q36, hq36, hP36⟩ := hR36
        cases hq36
        refine be rfl ?_
        refine k_then ?_
        refine t_seq ?_
        refine t_seq ?_
        refine b0 ?_
        refine o1 rfl (det_move rfl) rfl rfl trivial ?_
        refine o1 rfl (det_eql rfl rfl) rfl rfl trivial ?_
        refine be rfl ?_
        refine k_then ?_
        refine t_condP beq_iff_eq rfl (fun hb => ?_) (fun hb => ?_)
        ·
          have hS : preemptS p = ({ p with fin := x, rest := y }, 0) := by unfold preemptS; rw [if_neg hn, hr]; simp only; rw [if_pos hb]
          have hz := hb
          subst hz
          --note:z0
          refine b0 ?_
          refine o1 rfl (det_move rfl) rfl rfl trivial ?_
          refine o1 rfl (det_move rfl) rfl rfl trivial ?_
          refine o1 rfl (det_move rfl) rfl rfl trivial ?_
          refine o1 rfl (det_move rfl) rfl rfl trivial ?_
          refine o1 rfl (det_nilCheck rfl) rfl rfl trivial ?_
          refine o1 rfl (det_fieldAddr fld125_0 rfl) rfl rfl trivial ?_
          refine o1 rfl (det_fieldAddr fld68_6 rfl) rfl rfl trivial ?_
          refine st1 nofun rfl t1_3 rfl rfl rfl .head rfl trivial rfl ?_
          refine o1 rfl (det_nilCheck rfl) rfl rfl trivial ?_
          refine o1 rfl (det_fieldAddr fld125_0 rfl) rfl rfl trivial ?_
          refine o1 rfl (det_fieldAddr fld68_7 rfl) rfl rfl trivial ?_
          refine st1 nofun rfl t1_3 rfl rfl rfl .head rfl trivial rfl ?_
          refine be rfl ?_
          refine k_then ?_
          refine t_seq ?_
          refine t_seq ?_
          refine b0 ?_
          refine o1 rfl (det_move rfl) rfl rfl trivial ?_
          refine o1 rfl (det_eql rfl rfl) rfl rfl trivial ?_
          refine be rfl ?_
          refine k_then ?_
          refine t_condP beq_iff_eq rfl (fun hb => ?_) (fun hb => ?_)
          · exfalso; simp at hb
          refine t_skip ?_
          refine k_then ?_
          refine t_seq ?_
          refine b0 ?_
          refine o1 rfl (det_move rfl) rfl rfl trivial ?_
          refine o1 rfl (det_assign rfl) rfl rfl trivial ?_
          refine be rfl ?_
          refine k_then ?_
          refine t_ret ?_
          refine ret_tmp rfl rfl rfl (fun w1 hs => ?_)
          first
          | (exact end_m (bs := []) (cp' := [_]) (.refl _) hs rfl fun F2 _ _ _ => ⟨by rw [hS]; try rfl, by rw [hS]; try rfl⟩)
          | (have hS : preemptS p = (p, 0) := by unfold preemptS; rw [if_pos (by grind)])
            exact end_m (bs := []) (cp' := [_]) (.refl _) hs rfl fun F2 _ _ _ => ⟨by rw [hS]; try rfl, by rw [hS]; try rfl⟩
        ·
          have hz0 : z ≠ 0 := hb
          refine t_skip ?_
          refine k_then ?_
          refine t_seq ?_
          refine t_seq ?_
          refine b0 ?_
          refine o1 rfl (det_move rfl) rfl rfl trivial ?_
          refine o1 rfl (det_eql rfl rfl) rfl rfl trivial ?_
          refine be rfl ?_
          refine k_then ?_
          refine t_condP beq_iff_eq rfl (fun hb => ?_) (fun hb => ?_)
          ·
            have hS : preemptS p = (p, 0) := by unfold preemptS; rw [if_neg hn, hr]; simp only; rw [if_neg hz0, if_pos hb]
            refine b0 ?_
            refine o1 rfl (det_assign rfl) rfl rfl trivial ?_
            refine be rfl ?_
            refine k_then ?_
            refine t_seq ?_
            refine b0 ?_
            refine o1 rfl (det_move rfl) rfl rfl trivial ?_
            refine o1 rfl (det_assign rfl) rfl rfl trivial ?_
            refine be rfl ?_
            refine k_then ?_
            refine t_ret ?_
            refine ret_tmp rfl rfl rfl (fun w1 hs => ?_)
            first
            | (exact end_m (bs := []) (cp' := [_]) (.refl _) hs rfl fun F2 _ _ _ => ⟨by rw [hS]; try rfl, by rw [hS]; try rfl⟩)
            | (have hS : preemptS p = (p, 0) := by unfold preemptS; rw [if_pos (by grind)])
              exact end_m (bs := []) (cp' := [_]) (.refl _) hs rfl fun F2 _ _ _ => ⟨by rw [hS]; try rfl, by rw [hS]; try rfl⟩
          ·
            have hS : preemptS p = (p, z) := by unfold preemptS; rw [if_neg hn, hr]; simp only; rw [if_neg hz0, if_neg hb]
            refine t_skip ?_
            refine k_then ?_
            refine t_seq ?_
            refine b0 ?_
            refine o1 rfl (det_move rfl) rfl rfl trivial ?_
            refine o1 rfl (det_assign rfl) rfl rfl trivial ?_
            refine be rfl ?_
            refine k_then ?_
            refine t_ret ?_
            refine ret_tmp rfl rfl rfl (fun w1 hs => ?_)
            first
            | (exact end_m (bs := []) (cp' := [_]) (.refl _) hs rfl fun F2 _ _ _ => ⟨by rw [hS]; try rfl, by rw [hS]; try rfl⟩)
            | (have hS : preemptS p = (p, 0) := by unfold preemptS; rw [if_pos (by grind)])
              exact end_m (bs := []) (cp' := [_]) (.refl _) hs rfl fun F2 _ _ _ => ⟨by rw [hS]; try rfl, by rw [hS]; try rfl⟩
end Go.Proofs.Cp

/-
  Walks through layer 38.
-/
namespace Go.Proofs.Cp
open Go Go.Eng Go.Gt Go.Proofs.Gt Go.Sw Go.Qu Go.Ch Go.Po
set_option maxRecDepth 4000
theorem psta_ok {w : World} {F : Know} (hF : ∀ a v, F a = some v → w.cell? a = some v) {q : Nat} {p : Ps} {B G : Option Addr} {m d k gk : Nat} {ms : List Qm} (hK : PsK F p B m d ms) (h8 : p.qs.length = 8) (haway : ∀ a v, F a = some v → a.block ∉ idsO ([(q, .cells (pev p B m d G k gk).toArray 125 (0, 0))])) (hnd : (idsO ([(q, .cells (pev p B m d G k gk).toArray 125 (0, 0))])).Nodup) (hown : ∀ y ∈ ([(q, .cells (pev p B m d G k gk).toArray 125 (0, 0))] : Own), w.heap[y.1]? = some y.2) : CallsM Try.prog 107 [.pointer (some ⟨q, 0, none⟩)] w F ([(q, .cells (pev p B m d G k gk).toArray 125 (0, 0))]) (fun v cp1 F2 => v = .int .i64 (startS p).2 ∧ ∃ B2 d2 ms2, cp1 = [(q, .cells (pev (startS p).1 B2 m d2 G k gk).toArray 125 (0, 0))] ∧ PsK F2 (startS p).1 B2 m d2 ms2) := by
  refine fn_m (F := F) Try.func107 rfl Try.ntmps107 rfl hF haway hnd hown ?_
  refine t_seq ?_
  refine b0 ?_
  refine om1 rfl (new_box1 rfl rfl) rfl rfl trivial (fun p1 => ?_)
  refine o1 rfl (det_assign rfl) rfl rfl trivial ?_
  refine be rfl ?_
  refine k_then ?_
  refine t_seq ?_
  refine t_seq ?_
  refine b0 ?_
  refine o1 rfl (det_load1 t1_123 rfl rfl (.head _) rfl) rfl rfl trivial ?_
  refine o1 rfl (det_nilCheck rfl) rfl rfl trivial ?_
  refine o1 rfl (det_fieldAddr fld125_0 rfl) rfl rfl trivial ?_
  refine o1 rfl (det_fieldAddr fld68_3 rfl) rfl rfl trivial ?_
  refine o1 rfl (det_load1 t1_4 rfl rfl (.tail _ (.head _)) rfl) rfl rfl trivial ?_
  refine be rfl ?_
  refine k_then ?_
  refine t_condP Iff.rfl rfl (fun hb => ?_) (fun hb => ?_)
  ·
    have hS := startS_busy hb
    refine t_seq ?_
    refine b0 ?_
    refine o1 rfl (det_assign rfl) rfl rfl trivial ?_
    refine be rfl ?_
    refine k_then ?_
    refine t_ret (k_thenR (?_))
    refine ret_tmp rfl rfl rfl (fun w1 hs => ?_)
    exact end_m (bs := [_]) (cp' := [_]) (.refl _) hs rfl fun F2 h1 _ _ => ⟨by rw [hS], B, d, ms, by rw [hS]; try rfl, by rw [hS]; exact hK.mono h1⟩
  ·
    have hnb := hb
    refine t_skip ?_
    refine k_then ?_
    refine t_seq ?_
    refine bD mixed ?_
    refine r_segF 18 18 [] [(6, Go.Eng.Told F (fun v F2 => ∃ q6 : Nat, v = .slice (some ⟨q6, 0, none⟩) 8 8 ∧ PK F2 (some ⟨q6, 0, none⟩) 8 (headsS p)))] [0, 1, 2, 3, 4, 5, 6, 7, 8, 9, 10, 11, 12, 13, 14, 15, 16, 17] (by kernel_rfl) ?_
    obtain ⟨x, y, hst⟩ : ∃ x y, startA p.l (headsS p) p.now = (x, y) := ⟨_, _, rfl⟩
    refine s1 rfl (det_load1 t1_123 rfl rfl (.head _) rfl) rfl rfl trivial rfl ?_
    refine s1 rfl (det_nilCheck rfl) rfl rfl trivial rfl ?_
    refine s1 rfl (det_fieldAddr fld125_0 rfl) rfl rfl trivial rfl ?_
    refine s1 rfl (det_fieldAddr fld68_0 rfl) rfl rfl trivial rfl ?_
    refine s1 rfl (det_loadN tN26 rfl rfl (.tail _ (.head _)) rfl) rfl rfl trivial rfl ?_
    refine s1 rfl (det_load1 t1_123 rfl rfl (.head _) rfl) rfl rfl trivial rfl ?_
    refine sM [] need0 rfl (fun F2 hF2 hN => mem_call hF2 hb108 rfl rfl (fun w1 hs => (pheads_ok (F := fun a => w1.cell? a) (fun _ _ h => h) (p := p) (B := B) (m := m) (d := d) (G := G) (k := k) (gk := gk) (satCs hs (cs := pev p B m d G k gk) (T := 125) (by first | exact .head _ | exact .tail _ (.head _) | exact .tail _ (.tail _ (.head _)) | exact .tail _ (.tail _ (.tail _ (.head _))) | exact .tail _ (.tail _ (.tail _ (.tail _ (.head _)))) | exact .tail _ (.tail _ (.tail _ (.tail _ (.tail _ (.head _))))) | exact .tail _ (.tail _ (.tail _ (.tail _ (.tail _ (.tail _ (.head _)))))) | exact .tail _ (.tail _ (.tail _ (.tail _ (.tail _ (.tail _ (.tail _ (.head _))))))) | exact .tail _ (.tail _ (.tail _ (.tail _ (.tail _ (.tail _ (.tail _ (.tail _ (.head _)))))))) | exact .tail _ (.tail _ (.tail _ (.tail _ (.tail _ (.tail _ (.tail _ (.tail _ (.tail _ (.head _)))))))))) rfl) ((hK.mono hF2).mono hs.know) h8).any)) rfl rfl trivial rfl (fun v17 hv17 => ?_)
    obtain ⟨_, q_17, rfl, -⟩ := hv17
    refine s1 rfl (det_load1 t1_123 rfl rfl (.head _) rfl) rfl rfl trivial rfl ?_
    refine s1 rfl (det_nilCheck rfl) rfl rfl trivial rfl ?_
    refine s1 rfl (det_fieldAddr fld125_0 rfl) rfl rfl trivial rfl ?_
    refine s1 rfl (det_fieldAddr fld68_1 rfl) rfl rfl trivial rfl ?_
    refine s1 rfl (det_load1 t1_3 rfl rfl (.tail _ (.head _)) rfl) rfl rfl trivial rfl ?_
    refine s1N [_] (needC (.head _) rfl need0) rfl (fun F2 hF2 hN => det_call hb22 rfl rfl (fun w1 hs => (by obtain ⟨q9, hq, h9⟩ := hN _ (.head _); cases hq; exact start_at hs.know (EntK.mono hK.line hF2) h9 (by decide) hst))) rfl rfl trivial rfl ?_
    refine s1 rfl (det_move rfl) rfl rfl trivial rfl ?_
    refine s1 rfl (det_extract rfl rfl) rfl rfl trivial rfl ?_
    refine s1 rfl (det_extract rfl rfl) rfl rfl trivial rfl ?_
    refine s1 rfl (det_assign rfl) rfl rfl trivial rfl ?_
    refine s1 rfl (det_assign rfl) rfl rfl trivial rfl ?_
    refine sg_nil ?_
    rintro F_3_18 hF_3_18 hN_3_18 ⟨hR17, -⟩
    obtain ⟨q17, hq17, hP17⟩ := hR17
    cases hq17
    refine be rfl ?_
    refine k_then ?_
    refine t_seq ?_
    refine t_seq ?_
    refine b0 ?_
    refine o1 rfl (det_move rfl) rfl rfl trivial ?_
    refine o1 rfl (det_eql rfl rfl) rfl rfl trivial ?_
    refine be rfl ?_
    refine k_then ?_
    refine t_condP beq_iff_eq rfl (fun hb => ?_) (fun hb => ?_)
    ·
      have hy := hb
      subst hy
      have hS := startS_none hnb hst
      refine t_seq ?_
      refine b0 ?_
      refine o1 rfl (det_assign rfl) rfl rfl trivial ?_
      refine be rfl ?_
      refine k_then ?_
      refine t_ret (k_thenR (?_))
      refine ret_tmp rfl rfl rfl (fun w1 hs => ?_)
      exact end_m (bs := [_]) (cp' := [_]) (.refl _) hs rfl fun F2 h1 _ _ => ⟨by rw [hS], B, d, ms, by rw [hS]; try rfl, by rw [hS]; exact hK.mono h1⟩
    ·
      have hn4 := hb
      refine t_skip ?_
      refine k_then ?_
      refine t_seq ?_
      refine t_seq ?_
      refine b0 ?_
      refine o1 rfl (det_move rfl) rfl rfl trivial ?_
      refine o1 rfl (det_neq rfl rfl) rfl rfl trivial ?_
      refine be rfl ?_
      refine k_then ?_
      refine t_condP bne_iff_ne rfl (fun hb => ?_) (fun hb => ?_)
      ·
        have hS := startS_err hnb hst hn4 hb
        refine t_seq ?_
        refine b0 ?_
        refine o1 rfl (det_move rfl) rfl rfl trivial ?_
        refine o1 rfl (det_assign rfl) rfl rfl trivial ?_
        refine be rfl ?_
        refine k_then ?_
        refine t_ret (k_thenR (?_))
        refine ret_tmp rfl rfl rfl (fun w1 hs => ?_)
        exact end_m (bs := [_]) (cp' := [_]) (.refl _) hs rfl fun F2 h1 _ _ => ⟨by rw [hS], B, d, ms, by rw [hS]; try rfl, by rw [hS]; exact hK.mono h1⟩
      ·
        have hy : y = 0 := by simpa using hb
        subst hy
        obtain ⟨hz0, hHH, hcc, -, -⟩ := high_good hst (by simp)
        obtain ⟨hLL, -, hnow⟩ := errC_zero hz0
        have hper := (okL_parts hLL).2.1
        have hS := startS_pop hnb hst
        --note:set
        refine t_skip ?_
        refine k_then ?_
        refine t_seq ?_
        refine b0 ?_
        refine o1 rfl (det_load1 t1_123 rfl rfl (.head _) rfl) rfl rfl trivial ?_
        refine o1 rfl (det_move rfl) rfl rfl trivial ?_
        refine o1 rfl (det_makeFunc rfl rfl) rfl rfl trivial ?_
        refine tk_freezeQ (pre := []) (by simp) (fun Fa hFa hNFa hKFa => ?_)
        have h1q : ∀ j, j < 1 → Fa ((⟨p1, 0, none⟩ : Addr).add j) = ([Value.pointer (some ⟨q, 0, none⟩)])[j]? := fun j hj => by
          obtain ⟨u, hu⟩ : ∃ u, ([Value.pointer (some ⟨q, 0, none⟩)])[j]? = some u := ⟨_, List.getElem?_eq_getElem hj⟩
          rw [hu, add_mk, Nat.zero_add]
          exact hKFa j u (by first | exact hu | (rw [← Array.getElem?_toList]; exact hu))
        refine oM (cp := [_]) (rest := []) (.refl _) nofun rfl hb101 rfl rfl rfl trivial (fun w1 hs => set_sta hs.know (hK.mono (fun a u h => hFa _ _ (hF_3_18 _ _ h))) h8 hcc h1q hper hnow (satA hs) (satN hs) (satO hs)) (fun v1 cp1 F1 hF1 hN1 hr hi => ?_)
        obtain ⟨rfl, B2, d2, ms2, rfl, hK2⟩ := hr --note
        refine o1 rfl (det_assign rfl) rfl rfl trivial ?_
        refine be rfl ?_
        refine k_then ?_
        refine t_ret ?_
        refine ret_tmp rfl rfl rfl (fun w1 hs => ?_)
        exact end_m (bs := []) (cp' := [_]) (.refl _) hs rfl fun F2 h1 h2 _ => ⟨by rw [hS], B2, d2, ms2, by rw [hS]; try rfl, by rw [hS]; exact hK2.mono (fresh_incl (fresh_trans hN_3_18 (fresh_trans hNFa hN1)) h1 h2)⟩
theorem parr_ok {w : World} {F : Know} (hF : ∀ a v, F a = some v → w.cell? a = some v) {q : Nat} {p : Ps} {B G : Option Addr} {m d k gk : Nat} {ms : List Qm} (hK : PsK F p B m d ms) (h8 : p.qs.length = 8) {x : It} (haway : ∀ a v, F a = some v → a.block ∉ idsO ([(q, .cells (pev p B m d G k gk).toArray 125 (0, 0))])) (hnd : (idsO ([(q, .cells (pev p B m d G k gk).toArray 125 (0, 0))])).Nodup) (hown : ∀ y ∈ ([(q, .cells (pev p B m d G k gk).toArray 125 (0, 0))] : Own), w.heap[y.1]? = some y.2) : CallsM Try.prog 80 [.pointer (some ⟨q, 0, none⟩), .agg (itv x).toArray] w F ([(q, .cells (pev p B m d G k gk).toArray 125 (0, 0))]) (fun v cp1 F2 => v = .tuple [.bool (arriveS p x).2.1, .int .i64 (arriveS p x).2.2].toArray ∧ ∃ B2 d2 ms2, cp1 = [(q, .cells (pev (arriveS p x).1 B2 m d2 G k gk).toArray 125 (0, 0))] ∧ PsK F2 (arriveS p x).1 B2 m d2 ms2) := by
  refine fn_m (F := F) Try.func80 rfl Try.ntmps80 rfl hF haway hnd hown ?_
  refine t_seq ?_
  refine b0 ?_
  refine om1 rfl (new_boxN rfl) rfl rfl trivial (fun p3 => ?_)
  refine om1 rfl (new_alloc z4) rfl rfl trivial (fun p4 => ?_)
  refine o1 rfl (det_assign rfl) rfl rfl trivial ?_
  refine be rfl ?_
  refine k_then ?_
  refine t_seq ?_
  refine t_seq ?_
  refine b0 ?_
  refine o1 rfl (det_loadN tN55 rfl rfl (.tail _ (.head _)) rfl) rfl rfl trivial ?_
  refine o1 rfl (det_call hb77 rfl rfl (fun w1 hs => citem_at hs.know)) rfl rfl trivial ?_
  refine o1 rfl (det_assign rfl) rfl rfl trivial ?_
  refine be rfl ?_
  refine k_then ?_
  refine t_seq ?_
  refine b0 ?_
  refine o1 rfl (det_move rfl) rfl rfl trivial ?_
  refine o1 rfl (det_neq rfl rfl) rfl rfl trivial ?_
  refine be rfl ?_
  refine k_then ?_
  refine t_condP bne_iff_ne rfl (fun hb => ?_) (fun hb => ?_)
  ·
    have hok : okI x = false := by grind
    have hS := arriveS_bad (p := p) hok
    refine t_seq ?_
    refine b0 ?_
    refine o1 rfl (det_move rfl) rfl rfl trivial ?_
    refine st1 nofun rfl t1_4 rfl rfl rfl .head rfl trivial rfl ?_
    refine o1 rfl (det_assign rfl) rfl rfl trivial ?_
    refine be rfl ?_
    refine k_then ?_
    refine t_ret (k_thenR (?_))
    refine ret_any (vs := [_, _]) rfl rfl ⟨(.cell1 t1_4 rfl rfl (.head _) rfl), (.tmp rfl), trivial⟩ rfl (fun w1 hs => ?_)
    exact end_m (bs := [_, _]) (cp' := [_]) (.refl _) hs rfl fun F2 h1 _ _ => ⟨by rw [hS, hok]; rfl, B, d, ms, by rw [hS]; try rfl, by rw [hS]; exact hK.mono h1⟩
  ·
    have hok : okI x = true := by grind
    have hS := arriveS_push (p := p) hok
    --note:set
    refine t_skip ?_
    refine k_then ?_
    refine t_seq ?_
    refine b0 ?_
    refine o1 rfl (det_move rfl) rfl rfl trivial ?_
    refine o1 rfl (det_fieldAddr fld55_2 rfl) rfl rfl trivial ?_
    refine o1 rfl (det_load1 t1_3 rfl rfl (.tail _ (.head _)) rfl) rfl rfl trivial ?_
    refine o1 rfl (det_makeFunc rfl rfl) rfl rfl trivial ?_
    refine tk_freezeQ (pre := [_]) (by simp) (fun Fa hFa hNFa hKFa => ?_)
    have h3 : ∀ j, j < 5 → Fa ((⟨p3, 0, none⟩ : Addr).add j) = (itv x)[j]? := fun j hj => by
      obtain ⟨u, hu⟩ : ∃ u, (itv x)[j]? = some u := ⟨_, List.getElem?_eq_getElem hj⟩
      rw [hu, add_mk, Nat.zero_add]
      exact hKFa j u (by first | exact hu | (rw [← Array.getElem?_toList]; exact hu))
    refine oM (cp := [_, _]) (rest := []) (.refl _) nofun rfl hb101 rfl rfl rfl trivial (fun w1 hs => set_arr hs.know (hK.mono hFa) h8 (cc := x.cl) (by grind [okI]) h3 (satA hs) (satN hs) (satO hs)) (fun v1 cp1 F1 hF1 hN1 hr hi => ?_)
    obtain ⟨rfl, B2, d2, ms2, rfl, hK2⟩ := hr
    refine o1 rfl (det_assign rfl) rfl rfl trivial ?_
    refine be rfl ?_
    refine k_then ?_
    refine t_seq ?_
    refine b0 ?_
    refine o1 rfl (det_load1 t1_4 rfl rfl (.head _) rfl) rfl rfl trivial ?_
    refine o1 rfl (det_move rfl) rfl rfl trivial ?_
    refine st1 nofun rfl t1_4 rfl rfl rfl .head rfl trivial rfl ?_
    refine o1 rfl (det_assign rfl) rfl rfl trivial ?_
    refine be rfl ?_
    refine k_then ?_
    refine t_ret ?_
    refine ret_any (vs := [_, _]) rfl rfl ⟨(.cell1 t1_4 rfl rfl (.head _) rfl), (.tmp rfl), trivial⟩ rfl (fun w1 hs => ?_)
    exact end_m (bs := [_]) (cp' := [_]) (.refl _) hs rfl fun F2 h1 h2 _ => ⟨by rw [hS]; rfl, B2, d2, ms2, by rw [hS]; try rfl, by rw [hS]; exact hK2.mono (fresh_incl (fresh_trans hNFa hN1) h1 h2)⟩
end Go.Proofs.Cp

/-
  Walks through layer 38.
-/
namespace Go.Proofs.Cp
open Go Go.Eng Go.Gt Go.Proofs.Gt Go.Sw Go.Qu Go.Ch Go.Po
set_option maxRecDepth 4000
theorem pend_ok {w : World} {F : Know} (hF : ∀ a v, F a = some v → w.cell? a = some v) {q : Nat} {p : Ps} {B G : Option Addr} {m d k gk : Nat} {ms : List Qm} (hK : PsK F p B m d ms) (h8 : p.qs.length = 8) {gs : List Cm} {b : Own} (hS : SlO 88 6 (.slice G k gk) k (rowsV cmv gs) b) (hkb : k ≤ 1000000) (hcl : p.busy = true → 0 ≤ p.snd.it.cl ∧ p.snd.it.cl ≤ 7) (haway : ∀ a v, F a = some v → a.block ∉ idsO ([(q, .cells (pev p B m d G k gk).toArray 125 (0, 0))] ++ b)) (hnd : (idsO ([(q, .cells (pev p B m d G k gk).toArray 125 (0, 0))] ++ b)).Nodup) (hown : ∀ y ∈ ([(q, .cells (pev p B m d G k gk).toArray 125 (0, 0))] ++ b : Own), w.heap[y.1]? = some y.2) : CallsW Try.prog 79 [.pointer (some ⟨q, 0, none⟩)] w F ([(q, .cells (pev p B m d G k gk).toArray 125 (0, 0))] ++ b) (fun v cp1 F2 => v = .int .i64 (endS p gs).2.2 ∧ ∃ B2 d2 ms2 G2 k2 gk2 b2, cp1 = [(q, .cells (pev (endS p gs).1 B2 m d2 G2 k2 gk2).toArray 125 (0, 0))] ++ b2 ∧ SlO 88 6 (.slice G2 k2 gk2) k2 (rowsV cmv (endS p gs).2.1) b2 ∧ PsK F2 (endS p gs).1 B2 m d2 ms2) := by
  refine fn_w (F := F) Try.func79 rfl Try.ntmps79 rfl hF haway hnd hown ?_
  refine t_seq ?_
  refine b0 ?_
  refine o1 rfl (det_assign rfl) rfl rfl trivial ?_
  refine be rfl ?_
  refine k_then ?_
  refine t_seq ?_
  refine t_seq ?_
  refine bD mixed ?_
  refine r_seg 19 19 [] [0, 1, 2, 3, 4, 5, 6, 7, 8, 9, 10, 11, 12, 13, 14, 15, 16, 17, 18] (by kernel_rfl) ?_
  refine s1 rfl (det_move rfl) rfl rfl trivial rfl ?_
  refine s1 rfl (det_nilCheck rfl) rfl rfl trivial rfl ?_
  refine s1 rfl (det_fieldAddr fld125_0 rfl) rfl rfl trivial rfl ?_
  refine s1 rfl (det_fieldAddr fld68_3 rfl) rfl rfl trivial rfl ?_
  refine s1 rfl (det_load1 t1_4 rfl rfl (.head _) rfl) rfl rfl trivial rfl ?_
  refine s1 rfl (det_not rfl) rfl rfl trivial rfl ?_
  refine s2P not_iff_false rfl (det_move rfl) rfl rfl trivial rfl (fun hb => ?_) (fun hb => ?_)
  ·
    refine sn rfl rfl rfl ⟨_, rfl, .inl rfl⟩ ?_
    refine sn rfl rfl rfl ⟨_, rfl, .inl rfl⟩ ?_
    refine sn rfl rfl rfl ⟨_, rfl, .inl rfl⟩ ?_
    refine sn rfl rfl rfl ⟨_, rfl, .inl rfl⟩ ?_
    refine sn rfl rfl rfl ⟨_, rfl, .inl rfl⟩ ?_
    refine sn rfl rfl rfl ⟨_, rfl, .inl rfl⟩ ?_
    refine sn rfl rfl rfl ⟨_, rfl, .inl rfl⟩ ?_
    refine sn rfl rfl rfl ⟨_, rfl, .inl rfl⟩ ?_
    refine sn rfl rfl rfl ⟨_, rfl, .inl rfl⟩ ?_
    refine sn rfl rfl rfl ⟨_, rfl, .inl rfl⟩ ?_
    refine sn rfl rfl rfl ⟨_, rfl, .inl rfl⟩ ?_
    refine s1 rfl (det_pickT rfl rfl) rfl rfl trivial rfl ?_
    refine sg_nil ?_
    refine be rfl ?_
    refine k_then ?_
    refine t_condT rfl ?_
    refine t_seq ?_
    refine b0 ?_
    refine o1 rfl (det_assign rfl) rfl rfl trivial ?_
    refine be rfl ?_
    refine k_then ?_
    refine t_ret (k_thenR (?_))
    refine ret_tmp rfl rfl rfl (fun w1 hs => ?_)
    have hE := endS_bad (p := p) (g := gs) (by grind)
    exact end_w (bs := []) (cp' := [_] ++ b) (.refl _) hs fun F2 h1 _ _ => ⟨by rw [hE], B, d, ms, G, k, gk, b, by rw [hE], by rw [hE]; exact hS, by rw [hE]; exact hK.mono h1⟩
  ·
    refine s1 rfl (det_move rfl) rfl rfl ⟨_, rfl, rfl⟩ rfl ?_
    refine s1 rfl (det_nilCheck rfl) rfl rfl ⟨_, rfl, rfl⟩ rfl ?_
    refine s1 rfl (det_fieldAddr fld125_0 rfl) rfl rfl ⟨_, rfl, rfl⟩ rfl ?_
    refine s1 rfl (det_fieldAddr fld68_6 rfl) rfl rfl ⟨_, rfl, rfl⟩ rfl ?_
    refine s1 rfl (det_load1 t1_3 rfl rfl (.head _) rfl) rfl rfl ⟨_, rfl, rfl⟩ rfl ?_
    refine s1 rfl (det_move rfl) rfl rfl ⟨_, rfl, rfl⟩ rfl ?_
    refine s1 rfl (det_nilCheck rfl) rfl rfl ⟨_, rfl, rfl⟩ rfl ?_
    refine s1 rfl (det_fieldAddr fld125_0 rfl) rfl rfl ⟨_, rfl, rfl⟩ rfl ?_
    refine s1 rfl (det_fieldAddr fld68_1 rfl) rfl rfl ⟨_, rfl, rfl⟩ rfl ?_
    refine s1 rfl (det_load1 t1_3 rfl rfl (.head _) rfl) rfl rfl ⟨_, rfl, rfl⟩ rfl ?_
    refine s1 rfl (det_neq rfl rfl) rfl rfl ⟨_, rfl, rfl⟩ rfl ?_
    refine s1 rfl (det_pickF rfl rfl) rfl rfl trivial rfl ?_
    refine sg_nil ?_
    refine be rfl ?_
    refine k_then ?_
    refine t_condP bne_iff_ne rfl (fun hb => ?_) (fun hb => ?_)
    ·
      skip
      refine t_seq ?_
      refine b0 ?_
      refine o1 rfl (det_assign rfl) rfl rfl trivial ?_
      refine be rfl ?_
      refine k_then ?_
      refine t_ret (k_thenR (?_))
      refine ret_tmp rfl rfl rfl (fun w1 hs => ?_)
      have hE := endS_bad (p := p) (g := gs) (by grind)
      exact end_w (bs := []) (cp' := [_] ++ b) (.refl _) hs fun F2 h1 _ _ => ⟨by rw [hE], B, d, ms, G, k, gk, b, by rw [hE], by rw [hE]; exact hS, by rw [hE]; exact hK.mono h1⟩
    ·
      have hg : ¬ (p.busy = false ∨ p.fin ≠ p.now) := by grind
      have hcc := hcl (by grind)
      refine t_skip ?_
      refine k_then ?_
      refine t_seq ?_
      refine bD mixed ?_
      refine r_barX 14 12 3 [10, 11] [0, 1, 2, 3, 4, 5, 6, 7, 8, 9, 10, 11] (by kernel_rfl) ?_
      refine s1 rfl (det_move rfl) rfl rfl trivial rfl ?_
      refine s1 rfl (det_nilCheck rfl) rfl rfl trivial rfl ?_
      refine s1 rfl (det_fieldAddr fld125_0 rfl) rfl rfl trivial rfl ?_
      refine s1 rfl (det_fieldAddr fld68_4 rfl) rfl rfl trivial rfl ?_
      refine s1 rfl (det_loadN tN57 rfl rfl (.head _) rfl) rfl rfl trivial rfl ?_
      refine s1 rfl (det_move rfl) rfl rfl trivial rfl ?_
      refine s1 rfl (det_nilCheck rfl) rfl rfl trivial rfl ?_
      refine s1 rfl (det_fieldAddr fld125_0 rfl) rfl rfl trivial rfl ?_
      refine s1 rfl (det_fieldAddr fld68_7 rfl) rfl rfl trivial rfl ?_
      refine s1 rfl (det_load1 t1_3 rfl rfl (.head _) rfl) rfl rfl trivial rfl ?_
      refine sm1 rfl (new_alloc z57) rfl rfl trivial rfl (fun p3 => ?_)
      refine sm1 rfl (new_alloc z3) rfl rfl trivial rfl (fun p4 => ?_)
      refine sg_nil ⟨?_, ?_⟩
      rotate_left
      ·
        exact barX_stN rfl tN57 rfl rfl rfl (.tail .head) rfl trivial rfl rfl (.tail _ (.head _)) (.cons _ (.cons _ (.refl _)))
      refine stN (fun _ => by kernel_rfl) rfl tN57 rfl rfl rfl (.tail .head) rfl trivial rfl rfl ?_
      refine st1 (fun _ => by kernel_rfl) rfl t1_3 rfl rfl rfl .head rfl trivial rfl ?_
      refine be rfl ?_
      refine k_then ?_
      refine t_seq ?_
      refine b0 ?_
      refine o1 rfl (det_move rfl) rfl rfl trivial ?_
      refine o1 rfl (det_move rfl) rfl rfl trivial ?_
      refine o1 rfl (det_move rfl) rfl rfl trivial ?_
      refine o1 rfl (det_move rfl) rfl rfl trivial ?_
      refine o1 rfl (det_move rfl) rfl rfl trivial ?_
      refine o1 rfl (det_build rfl (fun w => bld57_ w)) rfl rfl trivial ?_
      refine o1 rfl (det_nilCheck rfl) rfl rfl trivial ?_
      refine o1 rfl (det_fieldAddr fld125_0 rfl) rfl rfl trivial ?_
      refine o1 rfl (det_fieldAddr fld68_3 rfl) rfl rfl trivial ?_
      refine st1 nofun rfl t1_4 rfl rfl rfl (.tail (.tail .head)) rfl trivial rfl ?_
      refine o1 rfl (det_nilCheck rfl) rfl rfl trivial ?_
      refine o1 rfl (det_fieldAddr fld125_0 rfl) rfl rfl trivial ?_
      refine o1 rfl (det_fieldAddr fld68_4 rfl) rfl rfl trivial ?_
      refine stN nofun rfl tN57 rfl rfl rfl (.tail (.tail .head)) rfl trivial rfl rfl ?_
      refine o1 rfl (det_nilCheck rfl) rfl rfl trivial ?_
      refine o1 rfl (det_fieldAddr fld125_0 rfl) rfl rfl trivial ?_
      refine o1 rfl (det_fieldAddr fld68_5 rfl) rfl rfl trivial ?_
      refine st1 nofun rfl t1_3 rfl rfl rfl (.tail (.tail .head)) rfl trivial rfl ?_
      refine o1 rfl (det_nilCheck rfl) rfl rfl trivial ?_
      refine o1 rfl (det_fieldAddr fld125_0 rfl) rfl rfl trivial ?_
      refine o1 rfl (det_fieldAddr fld68_6 rfl) rfl rfl trivial ?_
      refine st1 nofun rfl t1_3 rfl rfl rfl (.tail (.tail .head)) rfl trivial rfl ?_
      refine o1 rfl (det_nilCheck rfl) rfl rfl trivial ?_
      refine o1 rfl (det_fieldAddr fld125_0 rfl) rfl rfl trivial ?_
      refine o1 rfl (det_fieldAddr fld68_7 rfl) rfl rfl trivial ?_
      refine st1 nofun rfl t1_3 rfl rfl rfl (.tail (.tail .head)) rfl trivial rfl ?_
      refine be rfl ?_
      refine k_then ?_
      refine t_seq ?_
      refine t_seq ?_
      refine b0 ?_
      refine o1 rfl (det_load1 t1_3 rfl rfl (.head _) rfl) rfl rfl trivial ?_
      refine o1 rfl (det_eql rfl rfl) rfl rfl trivial ?_
      refine be rfl ?_
      refine k_then ?_
      refine t_condP beq_iff_eq rfl (fun hb => ?_) (fun hb => ?_)
      ·
        have hE := endS_done (g := gs) hg hb
        --note:app
        refine t_seq ?_
        refine bD mixed ?_
        refine r_bar 18 14 [13] [0, 1, 2, 3, 4, 5, 6, 7, 8, 9, 10, 11, 12, 13] _ (by kernel_rfl) (List.sublist_append_left [_, _, _] _) ?_
        refine s1 rfl (det_move rfl) rfl rfl trivial rfl ?_
        refine s1 rfl (det_move rfl) rfl rfl trivial rfl ?_
        refine s1 rfl (det_nilCheck rfl) rfl rfl trivial rfl ?_
        refine s1 rfl (det_fieldAddr fld125_1 rfl) rfl rfl trivial rfl ?_
        refine s1 rfl (det_load1 t1_83 rfl rfl (.tail _ (.tail _ (.head _))) rfl) rfl rfl trivial rfl ?_
        refine s1 rfl (det_move rfl) rfl rfl trivial rfl ?_
        refine s1 rfl (det_nilCheck rfl) rfl rfl trivial rfl ?_
        refine s1 rfl (det_fieldAddr fld125_0 rfl) rfl rfl trivial rfl ?_
        refine s1 rfl (det_fieldAddr fld68_1 rfl) rfl rfl trivial rfl ?_
        refine s1 rfl (det_load1 t1_3 rfl rfl (.tail _ (.tail _ (.head _))) rfl) rfl rfl trivial rfl ?_
        refine s1 rfl (det_fieldAddr fld57_0 rfl) rfl rfl trivial rfl ?_
        refine s1 rfl (det_loadN tN55 rfl rfl (.tail _ (.head _)) rfl) rfl rfl trivial rfl ?_
        refine s1 rfl (det_build rfl (fun w => bld88_0_1 _ _ _ _ _ _ w)) rfl rfl trivial rfl ?_
        refine sm1 rfl (new_buildSlice rfl (fun w => bsl83_1_0 _ _ _ _ _ _ w)) rfl rfl trivial rfl (fun p70 => ?_)
        refine sg_nil ⟨?_, ?_⟩
        rotate_left
        ·
          exact bar_app (pre := [_, _, _, _]) (b := _) (m := 1) (news := cmv ⟨p.now, p.snd.it⟩) rfl ap83 rfl rfl trivial hS rfl (fun w hs j u hj => hs.cellO (.head _) hj) (cmv_one _) (by omega) (by simp only [maxLen]; omega) (fun i hi => by first | exact List.mem_cons_of_mem _ (hi) | exact List.mem_cons_of_mem _ (List.mem_cons_of_mem _ (hi)) | exact List.mem_cons_of_mem _ (List.mem_cons_of_mem _ (List.mem_cons_of_mem _ (hi))) | exact List.mem_cons_of_mem _ (List.mem_cons_of_mem _ (List.mem_cons_of_mem _ (List.mem_cons_of_mem _ (hi)))) | exact List.mem_cons_of_mem _ (List.mem_cons_of_mem _ (List.mem_cons_of_mem _ (List.mem_cons_of_mem _ (List.mem_cons_of_mem _ (hi))))) | exact List.mem_cons_of_mem _ (List.mem_cons_of_mem _ (List.mem_cons_of_mem _ (List.mem_cons_of_mem _ (List.mem_cons_of_mem _ (List.mem_cons_of_mem _ (hi)))))) | have hi2 := hi; simp only [idsO, List.nil_append, List.map_cons, List.map_append, List.mem_cons, List.mem_append] at hi2 ⊢; simp only [hi2, or_true]) (.refl _)
        refine oAppS (pre := [_, _, _, _]) (b := _) (m := 1) (news := cmv ⟨p.now, p.snd.it⟩) (fun _ => by kernel_rfl) rfl ap83 rfl rfl rfl trivial hS rfl (fun w hs j u hj => hs.cellO (.head _) hj) (cmv_one _) (by omega) (by simp only [maxLen]; omega) (fun A9 c9 b9 hS9 => ?_)
        replace hS9 : SlO 88 6 (.slice A9 (k + 1) c9) (k + 1) (rowsV cmv (gs ++ [⟨p.now, p.snd.it⟩])) b9 := by rw [rowsV_app, rowsV_one]; exact hS9
        refine r_seg 18 17 [] [15, 16] (by kernel_rfl) ?_
        refine s1 rfl (det_nilCheck rfl) rfl rfl trivial rfl ?_
        refine s1 rfl (det_fieldAddr fld125_1 rfl) rfl rfl trivial rfl ?_
        refine sg_nil ?_
        refine st1 (fun _ => by kernel_rfl) rfl t1_83 rfl rfl rfl (.tail (.tail (.tail .head))) rfl trivial rfl ?_
        refine be rfl ?_
        refine k_then ?_
        refine t_seq ?_
        refine b0 ?_
        refine o1 rfl (det_assign rfl) rfl rfl trivial ?_
        refine be rfl ?_
        refine k_then ?_
        refine t_ret (k_thenR (?_))
        refine ret_tmp rfl rfl rfl (fun w1 hs => ?_)
        exact end_w (bs := [_, _, _]) (cp' := [_] ++ b9) (.refl _) hs fun F2 h1 _ _ => ⟨by rw [hE], B, d, ms, A9, k + 1, c9, b9, by rw [hE]; rfl, by rw [hE]; exact hS9, by rw [hE]; exact psK_of (hK.mono h1) rfl rfl⟩
      ·
        have hE := endS_ret (g := gs) hg hb
        --note:set
        refine t_skip ?_
        refine k_then ?_
        refine t_seq ?_
        refine b0 ?_
        refine o1 rfl (det_move rfl) rfl rfl trivial ?_
        refine o1 rfl (det_fieldAddr fld57_0 rfl) rfl rfl trivial ?_
        refine o1 rfl (det_fieldAddr fld55_2 rfl) rfl rfl trivial ?_
        refine o1 rfl (det_load1 t1_3 rfl rfl (.tail _ (.head _)) rfl) rfl rfl trivial ?_
        refine o1 rfl (det_makeFunc rfl rfl) rfl rfl trivial ?_
        try simp only [List.cons_append, List.nil_append]
        refine tk_freezeQ (pre := [_]) (fun i hi => List.mem_cons_of_mem _ hi) (fun Fa hFa hNFa hKFa => ?_)
        try simp only [List.cons_append, List.nil_append]
        have h7 : ∀ j, j < 7 → Fa ((⟨p3, 0, none⟩ : Addr).add j) = (ptv p.snd)[j]? := fun j hj => by
          obtain ⟨u, hu⟩ : ∃ u, (ptv p.snd)[j]? = some u := ⟨_, List.getElem?_eq_getElem hj⟩
          rw [hu, add_mk, Nat.zero_add]
          exact hKFa j u (by first | exact hu | (rw [← Array.getElem?_toList]; exact hu))
        try simp only [List.cons_append, List.nil_append]
        refine tk_freezeQ (pre := []) (fun i hi => hi) (fun Fb hFb hNFb hKFb => ?_)
        try simp only [List.cons_append, List.nil_append]
        have h4 : ∀ j, j < 1 → Fb ((⟨p4, 0, none⟩ : Addr).add j) = ([Value.int .i64 p.rest])[j]? := fun j hj => by
          obtain ⟨u, hu⟩ : ∃ u, ([Value.int .i64 p.rest])[j]? = some u := ⟨_, List.getElem?_eq_getElem hj⟩
          rw [hu, add_mk, Nat.zero_add]
          exact hKFb j u (by first | exact hu | (rw [← Array.getElem?_toList]; exact hu))
        have h7b := cells_mono h7 rfl hFb
        refine oM (cp := [_]) (rest := b) (.refl _) nofun rfl hb101 rfl rfl rfl trivial (fun w1 hs => set_end (p := idleS p) (G := G) (k := k) (gk := gk) hs.know (psK_of (hK.mono (fun a u h => hFb _ _ (hFa _ _ h))) rfl rfl) h8 hcc h7b h4 (satA hs) (satN hs) (satO hs)) (fun v1 cp1 F1 hF1 hN1 hr hi => ?_)
        obtain ⟨rfl, B2, d2, ms2, rfl, hK2⟩ := hr
        refine o1 rfl (det_assign rfl) rfl rfl trivial ?_
        refine be rfl ?_
        refine k_then ?_
        refine t_ret ?_
        refine ret_tmp rfl rfl rfl (fun w1 hs => ?_)
        exact end_w (bs := []) (cp' := [_] ++ b) (.refl _) hs fun F2 h1 h2 _ => ⟨by rw [hE]; rfl, B2, d2, ms2, G, k, gk, b, by rw [hE]; rfl, by rw [hE]; exact hS, by rw [hE]; exact hK2.mono (fresh_incl (fresh_trans hNFa (fresh_trans hNFb hN1)) h1 h2)⟩
end Go.Proofs.Cp

/-
  Walks through layer 38.
-/
namespace Go.Proofs.Cp
open Go Go.Eng Go.Gt Go.Proofs.Gt Go.Sw Go.Qu Go.Ch Go.Po
set_option maxRecDepth 4000
theorem pcho_ok {w : World} {F : Know} (hF : ∀ a v, F a = some v → w.cell? a = some v) {q : Nat} {p : Ps} {B G : Option Addr} {m d k gk : Nat} {ms : List Qm} (hK : PsK F p B m d ms) (h8 : p.qs.length = 8) (haway : ∀ a v, F a = some v → a.block ∉ idsO ([(q, .cells (pev p B m d G k gk).toArray 125 (0, 0))])) (hnd : (idsO ([(q, .cells (pev p B m d G k gk).toArray 125 (0, 0))])).Nodup) (hown : ∀ y ∈ ([(q, .cells (pev p B m d G k gk).toArray 125 (0, 0))] : Own), w.heap[y.1]? = some y.2) : CallsM Try.prog 81 [.pointer (some ⟨q, 0, none⟩)] w F ([(q, .cells (pev p B m d G k gk).toArray 125 (0, 0))]) (fun v cp1 F2 => v = .int .i64 (chooseS p).2 ∧ ∃ B2 d2 ms2, cp1 = [(q, .cells (pev (chooseS p).1 B2 m d2 G k gk).toArray 125 (0, 0))] ∧ PsK F2 (chooseS p).1 B2 m d2 ms2) := by
  refine fn_m (F := F) Try.func81 rfl Try.ntmps81 rfl hF haway hnd hown ?_
  refine t_seq ?_
  refine b0 ?_
  refine o1 rfl (det_assign rfl) rfl rfl trivial ?_
  refine be rfl ?_
  refine k_then ?_
  refine t_scope0 ?_
  refine t_seq ?_
  refine b0 ?_
  refine o1 rfl (det_assign rfl) rfl rfl trivial ?_
  refine be rfl ?_
  refine k_then ?_
  refine t_seq ?_
  refine t_label ?_
  refine k_then ?_
  refine t_seq ?_
  refine t_seq ?_
  refine b0 ?_
  refine o1 rfl (det_build rfl (fun w => bld161_0_1 _ _ _ _ _ _ w)) rfl rfl trivial ?_
  refine o1 rfl (det_move rfl) rfl rfl trivial ?_
  refine be rfl ?_
  refine k_then ?_
  refine t_block ?_
  refine t_whileK (σ := CS) (fun s => [(3, .int .i64 0), (7, .int .i64 (s.i : Int))]) (fun s => s.K) (fun s => [(q, .cells (pev s.P s.B m s.d G k gk).toArray 125 (0, 0))]) (fun s => 2 - s.i) (fun s => CI p s ∧ PsK s.K s.P s.B m s.d s.ms ∧ s.P.qs.length = 8 ∧ (∀ a u, s.K a = some u → F a = some u ∨ w.heap.size ≤ a.block) ∧ s.i ≤ 2) ⟨0, F, p, B, d, ms⟩ (env0 := [(0, _), (2, _), (6, _)]) ⟨.inl ⟨rfl, rfl⟩, hK, h8, fun _ _ h => .inl h, by simp⟩ incl_refl ⟨rfl, rfl, trivial⟩ ⟨rfl, rfl, rfl, trivial⟩ (.refl _) ?_
  rintro s ⟨hI, hK3, h83, hfr, hs2⟩
  refine t_seq ?_
  refine b0 ?_
  refine o1 rfl (det_lss rfl rfl) rfl rfl trivial ?_
  refine be rfl ?_
  refine k_then ?_
  refine t_seq ?_
  refine t_condP decide_eq_true_iff rfl (fun hb => ?_) (fun hb => ?_)
  ·
    skip
    refine t_skip ?_
    refine k_then ?_
    refine t_seq ?_
    refine t_block ?_
    refine t_seq ?_
    refine b0 ?_
    have h6 : s.i = 0 ∨ s.i = 1 := by omega
    rcases h6 with h6 | h6
    ·
      have hP0 := hI.zero h6
      refine o1 rfl (det_index1 ar161 t1_160 rfl rfl (by rw [h6]; decide) (by rw [h6]; rfl)) rfl rfl trivial ?_
      refine o1 rfl (det_assign rfl) rfl rfl trivial ?_
      refine be rfl ?_
      refine k_then ?_
      refine t_seq ?_
      refine b0 ?_
      refine o1 rfl (det_move rfl) rfl rfl trivial ?_
      refine o1 rfl (det_move rfl) rfl rfl trivial ?_
      refine oM (cp := [_]) (rest := []) (.refl _) nofun rfl hb106 rfl rfl rfl trivial (fun w1 hs => ppre_ok (p := s.P) (B := s.B) (d := s.d) (G := G) (k := k) (gk := gk) hs.know hK3 h83 (satA hs) (satN hs) (satO hs)) (fun v1 cp1 F1 hF1 hN1 hr hi => ?_)
      obtain ⟨rfl, rfl⟩ := hr
      refine o1 rfl (det_assign rfl) rfl rfl trivial ?_
      refine be rfl ?_
      refine k_then ?_
      refine t_seq ?_
      refine b0 ?_
      refine o1 rfl (det_move rfl) rfl rfl trivial ?_
      refine o1 rfl (det_neq rfl rfl) rfl rfl trivial ?_
      refine be rfl ?_
      refine k_then ?_
      refine t_condP bne_iff_ne rfl (fun hb => ?_) (fun hb => ?_)
      ·
        skip
        refine t_exit ?_
        refine k_blkN (by decide) ?_
        refine k_thenE ?_
        refine k_thenE ?_
        refine k_blkE ?_
        refine k_then ?_
        refine t_seq ?_
        refine b0 ?_
        refine o1 rfl (det_move rfl) rfl rfl trivial ?_
        refine o1 rfl (det_assign rfl) rfl rfl trivial ?_
        refine be rfl ?_
        refine k_then ?_
        refine t_ret (k_nogR (?_))
        refine ret_tmp rfl rfl rfl (fun w1 hs => ?_)
        have hC : chooseS p = preemptS s.P := by rw [hP0]; exact chooseS_a (by rw [← hP0]; exact hb)
        exact end_m (bs := []) (cp' := [_]) (.refl _) hs rfl fun F2 h1 h2 _ => ⟨by rw [hC], s.B, s.d, s.ms, by rw [hC], by rw [hC]; exact psK_of (hK3.mono (fun a u h => (hfr a u h).elim (h1 a u) (fun hb => h2 a u (hF1 _ _ h) hb))) preemptS_keep.2 preemptS_keep.1⟩
      ·
        skip
        refine t_skip ?_
        refine k_blk ?_
        refine k_then ?_
        refine b0 ?_
        first | (refine o1 rfl (det_addI rfl rfl ?_) rfl rfl trivial ?_; (· omega)) | refine o1 rfl (det_add rfl rfl) rfl rfl trivial ?_
        refine o1 rfl (det_move rfl) rfl rfl trivial ?_
        refine be rfl ?_
        refine k_then ?_
        refine loop_backK (⟨1, F1, (preemptS s.P).1, s.B, s.d, s.ms⟩ : CS) ⟨.inr (.inl ⟨rfl, by rw [← hP0]; simpa using hb, by rw [← hP0]⟩), psK_of (hK3.mono hF1) preemptS_keep.2 preemptS_keep.1, by rw [preemptS_keep.1]; exact h83, fun a u h => (hN1 a u h).elim (fun h => hfr a u h) .inr, by simp⟩ (by simp only; omega) (fun _ _ h => h) ⟨(mi rfl (by simpa using hb)), (mi rfl (by simp only [h6]; rfl)), rfl, rfl, rfl, trivial⟩ (.refl _)
    ·
      have hP0 := hI.one h6
      refine o1 rfl (det_index1 ar161 t1_160 rfl rfl (by rw [h6]; decide) (by rw [h6]; rfl)) rfl rfl trivial ?_
      refine o1 rfl (det_assign rfl) rfl rfl trivial ?_
      refine be rfl ?_
      refine k_then ?_
      refine t_seq ?_
      refine b0 ?_
      refine o1 rfl (det_move rfl) rfl rfl trivial ?_
      refine o1 rfl (det_move rfl) rfl rfl trivial ?_
      refine oM (cp := [_]) (rest := []) (.refl _) nofun rfl hb107 rfl rfl rfl trivial (fun w1 hs => psta_ok (p := s.P) (B := s.B) (d := s.d) (G := G) (k := k) (gk := gk) hs.know hK3 h83 (satA hs) (satN hs) (satO hs)) (fun v1 cp1 F1 hF1 hN1 hr hi => ?_)
      obtain ⟨rfl, B2, d2, ms2, rfl, hK2⟩ := hr
      refine o1 rfl (det_assign rfl) rfl rfl trivial ?_
      refine be rfl ?_
      refine k_then ?_
      refine t_seq ?_
      refine b0 ?_
      refine o1 rfl (det_move rfl) rfl rfl trivial ?_
      refine o1 rfl (det_neq rfl rfl) rfl rfl trivial ?_
      refine be rfl ?_
      refine k_then ?_
      refine t_condP bne_iff_ne rfl (fun hb => ?_) (fun hb => ?_)
      ·
        skip
        refine t_exit ?_
        refine k_blkN (by decide) ?_
        refine k_thenE ?_
        refine k_thenE ?_
        refine k_blkE ?_
        refine k_then ?_
        refine t_seq ?_
        refine b0 ?_
        refine o1 rfl (det_move rfl) rfl rfl trivial ?_
        refine o1 rfl (det_assign rfl) rfl rfl trivial ?_
        refine be rfl ?_
        refine k_then ?_
        refine t_ret (k_nogR (?_))
        refine ret_tmp rfl rfl rfl (fun w1 hs => ?_)
        have hC := chooseS_b hP0.1
        rw [← hP0.2] at hC
        exact end_m (bs := []) (cp' := [_]) (.refl _) hs rfl fun F2 h1 h2 _ => ⟨by rw [hC], B2, d2, ms2, by rw [hC], by rw [hC]; exact hK2.mono (fun a u h => (hN1 a u h).elim (fun h => (hfr a u h).elim (h1 a u) (fun hb => h2 a u (hF1 _ _ h) hb)) (h2 a u h))⟩
      ·
        skip
        refine t_skip ?_
        refine k_blk ?_
        refine k_then ?_
        refine b0 ?_
        first | (refine o1 rfl (det_addI rfl rfl ?_) rfl rfl trivial ?_; (· omega)) | refine o1 rfl (det_add rfl rfl) rfl rfl trivial ?_
        refine o1 rfl (det_move rfl) rfl rfl trivial ?_
        refine be rfl ?_
        refine k_then ?_
        refine loop_backK (⟨2, F1, (startS s.P).1, B2, d2, ms2⟩ : CS) ⟨.inr (.inr ⟨rfl, hP0.1, by rw [← hP0.2]; simpa using hb, by rw [← hP0.2]⟩), hK2, by rw [startS_len.1]; exact h83, fun a u h => (hN1 a u h).elim (fun h => hfr a u h) .inr, by simp⟩ (by simp only; omega) (fun _ _ h => h) ⟨(mi rfl (by simpa using hb)), (mi rfl (by simp only [h6]; rfl)), rfl, rfl, rfl, trivial⟩ (.refl _)
  ·
    skip
    refine t_exit ?_
    refine k_thenE ?_
    refine k_thenE ?_
    refine k_blkE ?_
    refine k_then ?_
    refine t_seq ?_
    refine b0 ?_
    refine o1 rfl (det_move rfl) rfl rfl trivial ?_
    refine o1 rfl (det_assign rfl) rfl rfl trivial ?_
    refine be rfl ?_
    refine k_then ?_
    refine t_ret (k_nogR (?_))
    refine ret_tmp rfl rfl rfl (fun w1 hs => ?_)
    obtain ⟨g1, g2, g3⟩ := hI.two (by omega)
    have hC := chooseS_b g1
    exact end_m (bs := []) (cp' := [_]) (.refl _) hs rfl fun F2 h1 h2 _ => ⟨by rw [hC, g2], s.B, s.d, s.ms, by rw [hC, ← g3], by rw [hC, ← g3]; exact hK3.mono (fun a u h => (hfr a u h).elim (h1 a u) (h2 a u h))⟩
end Go.Proofs.Cp

/-
  Walks through layer 38.
-/
namespace Go.Proofs.Cp
open Go Go.Eng Go.Gt Go.Proofs.Gt Go.Sw Go.Qu Go.Ch Go.Po
set_option maxRecDepth 4000
theorem next_ok {w : World} {F : Know} (hF : ∀ a v, F a = some v → w.cell? a = some v) {p : Ps} {B : Option Addr} {m d : Nat} {ms : List Qm} (hK : PsK F p B m d ms) : Pure Try.prog 43 [.agg (psv p B m d).toArray] w (.tuple [.int .i64 (nextA p).1, .int .i64 (nextA p).2].toArray) := by
  refine fn_pure (F := F) Try.func43 rfl Try.ntmps43 rfl hF ?_
  refine t_seq ?_
  refine b0 ?_
  refine om1 rfl (new_boxN rfl) rfl rfl trivial (fun p1 => ?_)
  refine o1 rfl (det_assign rfl) rfl rfl trivial ?_
  refine o1 rfl (det_assign rfl) rfl rfl trivial ?_
  refine be rfl ?_
  refine k_then ?_
  refine t_seq ?_
  refine t_seq ?_
  refine b0 ?_
  refine o1 rfl (det_loadN tN68 rfl rfl (.head _) rfl) rfl rfl trivial ?_
  refine o1 rfl (det_call hb37 rfl rfl (fun w1 hs => pcheck_ok hs.know hK)) rfl rfl trivial ?_
  refine o1 rfl (det_assign rfl) rfl rfl trivial ?_
  refine be rfl ?_
  refine k_then ?_
  refine t_seq ?_
  refine b0 ?_
  refine o1 rfl (det_move rfl) rfl rfl trivial ?_
  refine o1 rfl (det_neq rfl rfl) rfl rfl trivial ?_
  refine be rfl ?_
  refine k_then ?_
  refine t_condP bne_iff_ne rfl (fun hb => ?_) (fun hb => ?_)
  ·
    have hc : checkB p = false := by cases h : checkB p <;> simp_all
    refine t_seq ?_
    refine b0 ?_
    refine o1 rfl (det_move rfl) rfl rfl trivial ?_
    refine o1 rfl (det_assign rfl) rfl rfl trivial ?_
    refine o1 rfl (det_assign rfl) rfl rfl trivial ?_
    refine be rfl ?_
    refine k_then ?_
    refine t_ret (k_thenR (?_))
    refine ret_tmp2 rfl rfl rfl rfl (fun w1 hs => ?_)
    first
    | exact ⟨by rw [nextA_bad hc, hc]; rfl, hs.keep⟩
    | exact ⟨by rw [nextA_ok hc], hs.keep⟩
  ·
    have hc : checkB p = true := by cases h : checkB p <;> simp_all
    obtain ⟨hL, hnow, h8, hso⟩ := front_parts (check_parts hc).1
    refine t_skip ?_
    refine k_then ?_
    refine t_seq ?_
    refine b0 ?_
    refine o1 rfl (det_loadN tN68 rfl rfl (.head _) rfl) rfl rfl trivial ?_
    refine o1 rfl (det_build rfl (fun w => bld125_0 _ _ _ _ _ _ _ _ _ _ _ _ _ _ _ _ _ _ _ _ _ w)) rfl rfl trivial ?_
    refine om1 rfl (new_boxN rfl) rfl rfl trivial (fun p12 => ?_)
    refine o1 rfl (det_call hb82 rfl rfl (fun w1 hs => pnext_ok (F := fun a => w1.cell? a) (fun _ _ h => h) (p := p) (B := B) (m := m) (d := d) (G := none) (k := 0) (gk := 0) (satCs hs (cs := pev p B m d none 0 0) (T := 125) (by first | exact .head _ | exact .tail _ (.head _) | exact .tail _ (.tail _ (.head _)) | exact .tail _ (.tail _ (.tail _ (.head _))) | exact .tail _ (.tail _ (.tail _ (.tail _ (.head _)))) | exact .tail _ (.tail _ (.tail _ (.tail _ (.tail _ (.head _))))) | exact .tail _ (.tail _ (.tail _ (.tail _ (.tail _ (.tail _ (.head _)))))) | exact .tail _ (.tail _ (.tail _ (.tail _ (.tail _ (.tail _ (.tail _ (.head _))))))) | exact .tail _ (.tail _ (.tail _ (.tail _ (.tail _ (.tail _ (.tail _ (.tail _ (.head _)))))))) | exact .tail _ (.tail _ (.tail _ (.tail _ (.tail _ (.tail _ (.tail _ (.tail _ (.tail _ (.head _)))))))))) rfl) (hK.mono hs.know) h8)) rfl rfl trivial ?_
    refine o1 rfl (det_extract rfl rfl) rfl rfl trivial ?_
    refine o1 rfl (det_extract rfl rfl) rfl rfl trivial ?_
    refine o1 rfl (det_assign rfl) rfl rfl trivial ?_
    refine o1 rfl (det_assign rfl) rfl rfl trivial ?_
    refine be rfl ?_
    refine k_then ?_
    refine t_ret ?_
    refine ret_tmp2 rfl rfl rfl rfl (fun w1 hs => ?_)
    first
    | exact ⟨by rw [nextA_bad hc, hc]; rfl, hs.keep⟩
    | exact ⟨by rw [nextA_ok hc], hs.keep⟩
theorem choose_ok {w : World} {F : Know} (hF : ∀ a v, F a = some v → w.cell? a = some v) {p : Ps} {B : Option Addr} {m d : Nat} {ms : List Qm} (hK : PsK F p B m d ms) {t : Int} : CallsF Try.prog 46 [.agg (psv p B m d).toArray, .int .i64 t] w F (fun v F2 => ∃ B2 m2 d2 ms2, v = .tuple [.agg (psv (chooseA p t).1 B2 m2 d2).toArray, .int .i64 (chooseA p t).2].toArray ∧ PsK F2 (chooseA p t).1 B2 m2 d2 ms2) := by
  refine fn_fresh (F := F) Try.func46 rfl Try.ntmps46 rfl hF ?_
  refine t_seq ?_
  refine b0 ?_
  refine om1 rfl (new_boxN rfl) rfl rfl trivial (fun p2 => ?_)
  refine om1 rfl (new_alloc z68) rfl rfl trivial (fun p4 => ?_)
  refine o1 rfl (det_assign rfl) rfl rfl trivial ?_
  refine be rfl ?_
  refine k_then ?_
  refine t_seq ?_
  refine t_seq ?_
  refine b0 ?_
  refine o1 rfl (det_loadN tN68 rfl rfl (.tail _ (.head _)) rfl) rfl rfl trivial ?_
  refine o1 rfl (det_call hb37 rfl rfl (fun w1 hs => pcheck_ok hs.know hK)) rfl rfl trivial ?_
  refine o1 rfl (det_assign rfl) rfl rfl trivial ?_
  refine be rfl ?_
  refine k_then ?_
  refine t_seq ?_
  refine b0 ?_
  refine o1 rfl (det_move rfl) rfl rfl trivial ?_
  refine o1 rfl (det_neq rfl rfl) rfl rfl trivial ?_
  refine be rfl ?_
  refine k_then ?_
  refine t_condP bne_iff_ne rfl (fun hb => ?_) (fun hb => ?_)
  ·
    have hc : checkB p = false := by cases h : checkB p <;> simp_all
    --note:bad
    refine t_seq ?_
    refine b0 ?_
    refine o1 rfl (det_build rfl (fun w => bld68_ w)) rfl rfl trivial ?_
    refine o1 rfl (det_move rfl) rfl rfl trivial ?_
    refine stN nofun rfl tN68 rfl rfl rfl .head rfl trivial rfl rfl ?_
    refine o1 rfl (det_assign rfl) rfl rfl trivial ?_
    refine be rfl ?_
    refine k_then ?_
    refine t_ret (k_thenR (?_))
    refine ret_any (vs := [_, _]) rfl rfl ⟨(.cellN tN68 rfl rfl (.head _) rfl), (.tmp rfl), trivial⟩ rfl (fun w1 hs => ?_)
    rw [hc]
    exact end_fresh hs fun F2 h1 h2 _ => ⟨none, 0, 0, [], by rw [chooseA_bad hc]; try rfl, by rw [chooseA_bad hc]; exact zero_k F2⟩
  ·
    have hc : checkB p = true := by cases h : checkB p <;> simp_all
    obtain ⟨hL, hnow, h8, hso⟩ := front_parts (check_parts hc).1
    refine t_skip ?_
    refine k_then ?_
    refine t_seq ?_
    refine b0 ?_
    refine o1 rfl (det_loadN tN68 rfl rfl (.tail _ (.head _)) rfl) rfl rfl trivial ?_
    refine o1 rfl (det_build rfl (fun w => bld125_0 _ _ _ _ _ _ _ _ _ _ _ _ _ _ _ _ _ _ _ _ _ w)) rfl rfl trivial ?_
    refine om1 rfl (new_boxN rfl) rfl rfl trivial (fun p17 => ?_)
    refine o1 rfl (det_assign rfl) rfl rfl trivial ?_
    refine be rfl ?_
    refine k_then ?_
    refine t_seq ?_
    refine b0 ?_
    refine o1 rfl (det_move rfl) rfl rfl trivial ?_
    refine o1 rfl (det_move rfl) rfl rfl trivial ?_
    refine oM (cp := [_]) (rest := [_, _]) (.refl _) nofun rfl hb83 rfl rfl rfl trivial (fun w1 hs => pat_ok (p := p) (B := B) (m := m) (d := d) (G := none) (k := 0) (gk := 0) (t := t) hs.know (satA hs) (satN hs) (satO hs)) (fun v1 cp1 F1 hF1 hN1 hr hi => ?_)
    obtain ⟨rfl, rfl⟩ := hr
    replace hK := hK.mono hF1
    refine o1 rfl (det_assign rfl) rfl rfl trivial ?_
    refine be rfl ?_
    refine k_then ?_
    refine t_seq ?_
    refine t_seq ?_
    refine b0 ?_
    cases hat : atB p t
    ·
      simp only [Bool.false_eq_true, if_false]
      refine o1 rfl (det_move rfl) rfl rfl trivial ?_
      refine o1 rfl (det_eql rfl rfl) rfl rfl trivial ?_
      refine be rfl ?_
      refine k_then ?_
      refine t_condP beq_iff_eq rfl (fun hb => ?_) (fun hb => ?_)
      · exfalso; simp at hb
      refine t_skip ?_
      refine k_then ?_
      refine t_seq ?_
      refine t_seq ?_
      refine b0 ?_
      refine o1 rfl (det_move rfl) rfl rfl trivial ?_
      refine o1 rfl (det_neq rfl rfl) rfl rfl trivial ?_
      refine be rfl ?_
      refine k_then ?_
      refine t_condP bne_iff_ne rfl (fun hb => ?_) (fun hb => ?_)
      rotate_left
      · exfalso; simp at hb
      refine t_seq ?_
      refine b0 ?_
      refine o1 rfl (det_build rfl (fun w => bld68_ w)) rfl rfl trivial ?_
      refine o1 rfl (det_move rfl) rfl rfl trivial ?_
      refine stN nofun rfl tN68 rfl rfl rfl (.tail .head) rfl trivial rfl rfl ?_
      refine o1 rfl (det_assign rfl) rfl rfl trivial ?_
      refine be rfl ?_
      refine k_then ?_
      refine t_ret (k_thenR (?_))
      refine ret_any (vs := [_, _]) rfl rfl ⟨(.cellN tN68 rfl rfl (.tail _ (.head _)) rfl), (.tmp rfl), trivial⟩ rfl (fun w1 hs => ?_)
      exact end_fresh hs fun F2 h1 h2 _ => ⟨none, 0, 0, [], by rw [chooseA_at hc hat]; try rfl, by rw [chooseA_at hc hat]; exact zero_k F2⟩
    ·
      simp only [if_true]
      refine o1 rfl (det_move rfl) rfl rfl trivial ?_
      refine o1 rfl (det_eql rfl rfl) rfl rfl trivial ?_
      refine be rfl ?_
      refine k_then ?_
      refine t_condP beq_iff_eq rfl (fun hb => ?_) (fun hb => ?_)
      rotate_left
      · exfalso; exact hb rfl
      refine b0 ?_
      refine o1 rfl (det_move rfl) rfl rfl trivial ?_
      refine oM (cp := [_]) (rest := [_, _]) (.refl _) nofun rfl hb81 rfl rfl rfl trivial (fun w1 hs => pcho_ok (p := stayS p t) (B := B) (m := m) (d := d) (G := none) (k := 0) (gk := 0) hs.know (psK_of hK rfl rfl) h8 (satA hs) (satN hs) (satO hs)) (fun v2 cp2 F2 hF2 hN2 hr hi2 => ?_)
      obtain ⟨rfl, B2, d2, ms2, rfl, hK2⟩ := hr
      refine o1 rfl (det_assign rfl) rfl rfl trivial ?_
      refine be rfl ?_
      refine k_then ?_
      refine t_seq ?_
      refine t_seq ?_
      refine b0 ?_
      refine o1 rfl (det_move rfl) rfl rfl trivial ?_
      refine o1 rfl (det_neq rfl rfl) rfl rfl trivial ?_
      refine be rfl ?_
      refine k_then ?_
      refine t_condP bne_iff_ne rfl (fun hb => ?_) (fun hb => ?_)
      ·
        --note:err
        refine t_seq ?_
        refine b0 ?_
        refine o1 rfl (det_build rfl (fun w => bld68_ w)) rfl rfl trivial ?_
        refine o1 rfl (det_move rfl) rfl rfl trivial ?_
        refine stN nofun rfl tN68 rfl rfl rfl (.tail .head) rfl trivial rfl rfl ?_
        refine o1 rfl (det_assign rfl) rfl rfl trivial ?_
        refine be rfl ?_
        refine k_then ?_
        refine t_ret (k_thenR (?_))
        refine ret_any (vs := [_, _]) rfl rfl ⟨(.cellN tN68 rfl rfl (.tail _ (.head _)) rfl), (.tmp rfl), trivial⟩ rfl (fun w1 hs => ?_)
        exact end_fresh hs fun F2 h1 h2 _ => ⟨none, 0, 0, [], by rw [chooseA_err hc hat hb]; try rfl, by rw [chooseA_err hc hat hb]; exact zero_k F2⟩
      ·
        skip
        refine t_skip ?_
        refine k_then ?_
        refine t_seq ?_
        refine b0 ?_
        refine o1 rfl (det_move rfl) rfl rfl trivial ?_
        refine o1 rfl (det_nilCheck rfl) rfl rfl trivial ?_
        refine o1 rfl (det_fieldAddr fld125_0 rfl) rfl rfl trivial ?_
        refine o1 rfl (det_loadN tN68 rfl rfl (.head _) rfl) rfl rfl trivial ?_
        refine stN nofun rfl tN68 rfl rfl rfl (.tail .head) rfl trivial rfl rfl ?_
        refine o1 rfl (det_assign rfl) rfl rfl trivial ?_
        refine be rfl ?_
        refine k_then ?_
        refine t_ret ?_
        refine ret_any (vs := [_, _]) rfl rfl ⟨(.cellN tN68 rfl rfl (.tail _ (.head _)) rfl), (.tmp rfl), trivial⟩ rfl (fun w1 hs => ?_)
        exact end_fresh hs fun F2 h1 h2 _ => ⟨B2, m, d2, ms2, by rw [chooseA_ok hc hat hb]; try rfl, by rw [chooseA_ok hc hat hb]; exact hK2.mono (fresh_incl (fresh_trans hN1 hN2) h1 h2)⟩
end Go.Proofs.Cp

/-
  Walks through layer 38.
-/
namespace Go.Proofs.Cp
open Go Go.Eng Go.Gt Go.Proofs.Gt Go.Sw Go.Qu Go.Ch Go.Po
set_option maxRecDepth 4000
theorem arrive_ok {w : World} {F : Know} (hF : ∀ a v, F a = some v → w.cell? a = some v) {p : Ps} {B : Option Addr} {m d : Nat} {ms : List Qm} (hK : PsK F p B m d ms) {t : Int} {x : It} : CallsF Try.prog 45 [.agg (psv p B m d).toArray, .int .i64 t, .agg (itv x).toArray] w F (fun v F2 => ∃ B2 m2 d2 ms2, v = .tuple [.agg (psv (arriveA p t x).1 B2 m2 d2).toArray, .bool (arriveA p t x).2.1, .int .i64 (arriveA p t x).2.2].toArray ∧ PsK F2 (arriveA p t x).1 B2 m2 d2 ms2) := by
  refine fn_fresh (F := F) Try.func45 rfl Try.ntmps45 rfl hF ?_
  refine t_seq ?_
  refine b0 ?_
  refine om1 rfl (new_boxN rfl) rfl rfl trivial (fun p3 => ?_)
  refine om1 rfl (new_boxN rfl) rfl rfl trivial (fun p5 => ?_)
  refine om1 rfl (new_alloc z68) rfl rfl trivial (fun p6 => ?_)
  refine o1 rfl (det_assign rfl) rfl rfl trivial ?_
  refine o1 rfl (det_assign rfl) rfl rfl trivial ?_
  refine be rfl ?_
  refine k_then ?_
  refine t_seq ?_
  refine t_seq ?_
  refine b0 ?_
  refine o1 rfl (det_loadN tN68 rfl rfl (.tail _ (.tail _ (.head _))) rfl) rfl rfl trivial ?_
  refine o1 rfl (det_call hb37 rfl rfl (fun w1 hs => pcheck_ok hs.know hK)) rfl rfl trivial ?_
  refine o1 rfl (det_assign rfl) rfl rfl trivial ?_
  refine be rfl ?_
  refine k_then ?_
  refine t_seq ?_
  refine b0 ?_
  refine o1 rfl (det_move rfl) rfl rfl trivial ?_
  refine o1 rfl (det_neq rfl rfl) rfl rfl trivial ?_
  refine be rfl ?_
  refine k_then ?_
  refine t_condP bne_iff_ne rfl (fun hb => ?_) (fun hb => ?_)
  ·
    have hc : checkB p = false := by cases h : checkB p <;> simp_all
    --note:bad
    refine t_seq ?_
    refine b0 ?_
    refine o1 rfl (det_build rfl (fun w => bld68_ w)) rfl rfl trivial ?_
    refine o1 rfl (det_move rfl) rfl rfl trivial ?_
    refine stN nofun rfl tN68 rfl rfl rfl .head rfl trivial rfl rfl ?_
    refine o1 rfl (det_assign rfl) rfl rfl trivial ?_
    refine o1 rfl (det_assign rfl) rfl rfl trivial ?_
    refine be rfl ?_
    refine k_then ?_
    refine t_ret (k_thenR (?_))
    refine ret_any (vs := [_, _, _]) rfl rfl ⟨(.cellN tN68 rfl rfl (.head _) rfl), (.tmp rfl), (.tmp rfl), trivial⟩ rfl (fun w1 hs => ?_)
    rw [hc]
    exact end_fresh hs fun F2 h1 h2 _ => ⟨none, 0, 0, [], by rw [arriveA_bad hc]; try rfl, by rw [arriveA_bad hc]; exact zero_k F2⟩
  ·
    have hc : checkB p = true := by cases h : checkB p <;> simp_all
    obtain ⟨hL, hnow, h8, hso⟩ := front_parts (check_parts hc).1
    refine t_skip ?_
    refine k_then ?_
    refine t_seq ?_
    refine b0 ?_
    refine o1 rfl (det_loadN tN68 rfl rfl (.tail _ (.tail _ (.head _))) rfl) rfl rfl trivial ?_
    refine o1 rfl (det_build rfl (fun w => bld125_0 _ _ _ _ _ _ _ _ _ _ _ _ _ _ _ _ _ _ _ _ _ w)) rfl rfl trivial ?_
    refine om1 rfl (new_boxN rfl) rfl rfl trivial (fun p22 => ?_)
    refine o1 rfl (det_assign rfl) rfl rfl trivial ?_
    refine be rfl ?_
    refine k_then ?_
    refine t_seq ?_
    refine t_seq ?_
    refine b0 ?_
    refine o1 rfl (det_move rfl) rfl rfl trivial ?_
    refine o1 rfl (det_move rfl) rfl rfl trivial ?_
    refine oM (cp := [_]) (rest := [_, _, _]) (.refl _) nofun rfl hb83 rfl rfl rfl trivial (fun w1 hs => pat_ok (p := p) (B := B) (m := m) (d := d) (G := none) (k := 0) (gk := 0) (t := t) hs.know (satA hs) (satN hs) (satO hs)) (fun v1 cp1 F1 hF1 hN1 hr hi => ?_)
    obtain ⟨rfl, rfl⟩ := hr
    replace hK := hK.mono hF1
    refine o1 rfl (det_assign rfl) rfl rfl trivial ?_
    refine be rfl ?_
    refine k_then ?_
    refine t_seq ?_
    refine b0 ?_
    cases hat : atB p t
    ·
      simp only [Bool.false_eq_true, if_false]
      refine o1 rfl (det_move rfl) rfl rfl trivial ?_
      refine o1 rfl (det_neq rfl rfl) rfl rfl trivial ?_
      refine be rfl ?_
      refine k_then ?_
      refine t_condP bne_iff_ne rfl (fun hb => ?_) (fun hb => ?_)
      rotate_left
      · exfalso; simp at hb
      refine t_seq ?_
      refine b0 ?_
      refine o1 rfl (det_build rfl (fun w => bld68_ w)) rfl rfl trivial ?_
      refine o1 rfl (det_move rfl) rfl rfl trivial ?_
      refine stN nofun rfl tN68 rfl rfl rfl (.tail .head) rfl trivial rfl rfl ?_
      refine o1 rfl (det_assign rfl) rfl rfl trivial ?_
      refine o1 rfl (det_assign rfl) rfl rfl trivial ?_
      refine be rfl ?_
      refine k_then ?_
      refine t_ret (k_thenR (?_))
      refine ret_any (vs := [_, _, _]) rfl rfl ⟨(.cellN tN68 rfl rfl (.tail _ (.head _)) rfl), (.tmp rfl), (.tmp rfl), trivial⟩ rfl (fun w1 hs => ?_)
      exact end_fresh hs fun F2 h1 h2 _ => ⟨none, 0, 0, [], by rw [arriveA_at hc hat]; try rfl, by rw [arriveA_at hc hat]; exact zero_k F2⟩
    ·
      simp only [if_true]
      refine o1 rfl (det_move rfl) rfl rfl trivial ?_
      refine o1 rfl (det_neq rfl rfl) rfl rfl trivial ?_
      refine be rfl ?_
      refine k_then ?_
      refine t_condP bne_iff_ne rfl (fun hb => ?_) (fun hb => ?_)
      · exfalso; exact hb rfl
      refine t_skip ?_
      refine k_then ?_
      refine t_seq ?_
      refine b0 ?_
      refine o1 rfl (det_move rfl) rfl rfl trivial ?_
      refine o1 rfl (det_loadN tN55 rfl rfl (.tail _ (.tail _ (.head _))) rfl) rfl rfl trivial ?_
      refine oM (cp := [_]) (rest := [_, _, _]) (.refl _) nofun rfl hb80 rfl rfl rfl trivial (fun w1 hs => parr_ok (p := stayS p t) (B := B) (m := m) (d := d) (G := none) (k := 0) (gk := 0) (x := x) hs.know (psK_of hK rfl rfl) h8 (satA hs) (satN hs) (satO hs)) (fun v2 cp2 F2 hF2 hN2 hr hi2 => ?_)
      obtain ⟨rfl, B2, d2, ms2, rfl, hK2⟩ := hr
      refine o1 rfl (det_move rfl) rfl rfl trivial ?_
      refine o1 rfl (det_extract rfl rfl) rfl rfl trivial ?_
      refine o1 rfl (det_extract rfl rfl) rfl rfl trivial ?_
      refine o1 rfl (det_assign rfl) rfl rfl trivial ?_
      refine o1 rfl (det_assign rfl) rfl rfl trivial ?_
      refine be rfl ?_
      refine k_then ?_
      refine t_seq ?_
      refine t_seq ?_
      refine b0 ?_
      refine o1 rfl (det_move rfl) rfl rfl trivial ?_
      refine o1 rfl (det_neq rfl rfl) rfl rfl trivial ?_
      refine be rfl ?_
      refine k_then ?_
      refine t_condP bne_iff_ne rfl (fun hb => ?_) (fun hb => ?_)
      ·
        --note:err
        refine t_seq ?_
        refine b0 ?_
        refine o1 rfl (det_build rfl (fun w => bld68_ w)) rfl rfl trivial ?_
        refine o1 rfl (det_move rfl) rfl rfl trivial ?_
        refine stN nofun rfl tN68 rfl rfl rfl (.tail .head) rfl trivial rfl rfl ?_
        refine o1 rfl (det_assign rfl) rfl rfl trivial ?_
        refine o1 rfl (det_assign rfl) rfl rfl trivial ?_
        refine be rfl ?_
        refine k_then ?_
        refine t_ret (k_thenR (?_))
        refine ret_any (vs := [_, _, _]) rfl rfl ⟨(.cellN tN68 rfl rfl (.tail _ (.head _)) rfl), (.tmp rfl), (.tmp rfl), trivial⟩ rfl (fun w1 hs => ?_)
        exact end_fresh hs fun F2 h1 h2 _ => ⟨none, 0, 0, [], by rw [arriveA_err hc hat hb]; try rfl, by rw [arriveA_err hc hat hb]; exact zero_k F2⟩
      ·
        skip
        refine t_skip ?_
        refine k_then ?_
        refine t_seq ?_
        refine b0 ?_
        refine o1 rfl (det_move rfl) rfl rfl trivial ?_
        refine o1 rfl (det_nilCheck rfl) rfl rfl trivial ?_
        refine o1 rfl (det_fieldAddr fld125_0 rfl) rfl rfl trivial ?_
        refine o1 rfl (det_loadN tN68 rfl rfl (.head _) rfl) rfl rfl trivial ?_
        refine o1 rfl (det_move rfl) rfl rfl trivial ?_
        refine stN nofun rfl tN68 rfl rfl rfl (.tail .head) rfl trivial rfl rfl ?_
        refine o1 rfl (det_assign rfl) rfl rfl trivial ?_
        refine o1 rfl (det_assign rfl) rfl rfl trivial ?_
        refine be rfl ?_
        refine k_then ?_
        refine t_ret ?_
        refine ret_any (vs := [_, _, _]) rfl rfl ⟨(.cellN tN68 rfl rfl (.tail _ (.head _)) rfl), (.tmp rfl), (.tmp rfl), trivial⟩ rfl (fun w1 hs => ?_)
        exact end_fresh hs fun F2 h1 h2 _ => ⟨B2, m, d2, ms2, by rw [arriveA_ok hc hat hb]; try rfl, by rw [arriveA_ok hc hat hb]; exact hK2.mono (fresh_incl (fresh_trans hN1 hN2) h1 h2)⟩
theorem end_ok {w : World} {F : Know} (hF : ∀ a v, F a = some v → w.cell? a = some v) {p : Ps} {B : Option Addr} {m d : Nat} {ms : List Qm} (hK : PsK F p B m d ms) {t : Int} : CallsF Try.prog 44 [.agg (psv p B m d).toArray, .int .i64 t] w F (fun v F2 => ∃ B2 m2 d2 ms2, v = .tuple [.agg (psv (endA p t).1 B2 m2 d2).toArray, .agg (itv (endA p t).2.1).toArray, .bool (endA p t).2.2.1, .int .i64 (endA p t).2.2.2].toArray ∧ PsK F2 (endA p t).1 B2 m2 d2 ms2) := by
  refine fn_fresh (F := F) Try.func44 rfl Try.ntmps44 rfl hF ?_
  refine t_seq ?_
  refine b0 ?_
  refine om1 rfl (new_boxN rfl) rfl rfl trivial (fun p2 => ?_)
  refine om1 rfl (new_alloc z68) rfl rfl trivial (fun p4 => ?_)
  refine om1 rfl (new_alloc z55) rfl rfl trivial (fun p5 => ?_)
  refine o1 rfl (det_assign rfl) rfl rfl trivial ?_
  refine o1 rfl (det_assign rfl) rfl rfl trivial ?_
  refine be rfl ?_
  refine k_then ?_
  refine t_seq ?_
  refine t_seq ?_
  refine b0 ?_
  refine o1 rfl (det_loadN tN68 rfl rfl (.tail _ (.tail _ (.head _))) rfl) rfl rfl trivial ?_
  refine o1 rfl (det_call hb37 rfl rfl (fun w1 hs => pcheck_ok hs.know hK)) rfl rfl trivial ?_
  refine o1 rfl (det_assign rfl) rfl rfl trivial ?_
  refine be rfl ?_
  refine k_then ?_
  refine t_seq ?_
  refine b0 ?_
  refine o1 rfl (det_move rfl) rfl rfl trivial ?_
  refine o1 rfl (det_neq rfl rfl) rfl rfl trivial ?_
  refine be rfl ?_
  refine k_then ?_
  refine t_condP bne_iff_ne rfl (fun hb => ?_) (fun hb => ?_)
  ·
    have hc : checkB p = false := by cases h : checkB p <;> simp_all
    --note:bad
    refine t_seq ?_
    refine b0 ?_
    refine o1 rfl (det_build rfl (fun w => bld68_ w)) rfl rfl trivial ?_
    refine o1 rfl (det_build rfl (fun w => bld55_ w)) rfl rfl trivial ?_
    refine o1 rfl (det_move rfl) rfl rfl trivial ?_
    refine stN nofun rfl tN68 rfl rfl rfl (.tail .head) rfl trivial rfl rfl ?_
    refine stN nofun rfl tN55 rfl rfl rfl .head rfl trivial rfl rfl ?_
    refine o1 rfl (det_assign rfl) rfl rfl trivial ?_
    refine o1 rfl (det_assign rfl) rfl rfl trivial ?_
    refine be rfl ?_
    refine k_then ?_
    refine t_ret (k_thenR (?_))
    refine ret_any (vs := [_, _, _, _]) rfl rfl ⟨(.cellN tN68 rfl rfl (.tail _ (.head _)) rfl), (.cellN tN55 rfl rfl (.head _) rfl), (.tmp rfl), (.tmp rfl), trivial⟩ rfl (fun w1 hs => ?_)
    rw [hc]
    exact end_fresh hs fun F2 h1 h2 _ => ⟨none, 0, 0, [], by rw [endA_bad hc]; try rfl, by rw [endA_bad hc]; exact zero_k F2⟩
  ·
    have hc : checkB p = true := by cases h : checkB p <;> simp_all
    obtain ⟨hL, hnow, h8, hso⟩ := front_parts (check_parts hc).1
    refine t_skip ?_
    refine k_then ?_
    refine t_seq ?_
    refine b0 ?_
    refine o1 rfl (det_loadN tN68 rfl rfl (.tail _ (.tail _ (.head _))) rfl) rfl rfl trivial ?_
    refine o1 rfl (det_build rfl (fun w => bld125_0 _ _ _ _ _ _ _ _ _ _ _ _ _ _ _ _ _ _ _ _ _ w)) rfl rfl trivial ?_
    refine om1 rfl (new_boxN rfl) rfl rfl trivial (fun p20 => ?_)
    refine o1 rfl (det_assign rfl) rfl rfl trivial ?_
    refine be rfl ?_
    refine k_then ?_
    refine t_seq ?_
    refine b0 ?_
    refine o1 rfl (det_move rfl) rfl rfl trivial ?_
    refine o1 rfl (det_move rfl) rfl rfl trivial ?_
    refine oM (cp := [_]) (rest := [_, _, _]) (.refl _) nofun rfl hb83 rfl rfl rfl trivial (fun w1 hs => pat_ok (p := p) (B := B) (m := m) (d := d) (G := none) (k := 0) (gk := 0) (t := t) hs.know (satA hs) (satN hs) (satO hs)) (fun v1 cp1 F1 hF1 hN1 hr hi => ?_)
    obtain ⟨rfl, rfl⟩ := hr
    replace hK := hK.mono hF1
    refine o1 rfl (det_assign rfl) rfl rfl trivial ?_
    refine be rfl ?_
    refine k_then ?_
    refine t_seq ?_
    refine t_seq ?_
    refine b0 ?_
    cases hat : atB p t
    ·
      simp only [Bool.false_eq_true, if_false]
      refine o1 rfl (det_move rfl) rfl rfl trivial ?_
      refine o1 rfl (det_eql rfl rfl) rfl rfl trivial ?_
      refine be rfl ?_
      refine k_then ?_
      refine t_condP beq_iff_eq rfl (fun hb => ?_) (fun hb => ?_)
      · exfalso; simp at hb
      refine t_skip ?_
      refine k_then ?_
      refine t_seq ?_
      refine t_seq ?_
      refine b0 ?_
      refine o1 rfl (det_move rfl) rfl rfl trivial ?_
      refine o1 rfl (det_neq rfl rfl) rfl rfl trivial ?_
      refine be rfl ?_
      refine k_then ?_
      refine t_condP bne_iff_ne rfl (fun hb => ?_) (fun hb => ?_)
      rotate_left
      · exfalso; simp at hb
      refine t_seq ?_
      refine b0 ?_
      refine o1 rfl (det_build rfl (fun w => bld68_ w)) rfl rfl trivial ?_
      refine o1 rfl (det_build rfl (fun w => bld55_ w)) rfl rfl trivial ?_
      refine o1 rfl (det_move rfl) rfl rfl trivial ?_
      refine stN nofun rfl tN68 rfl rfl rfl (.tail (.tail .head)) rfl trivial rfl rfl ?_
      refine stN nofun rfl tN55 rfl rfl rfl (.tail .head) rfl trivial rfl rfl ?_
      refine o1 rfl (det_assign rfl) rfl rfl trivial ?_
      refine o1 rfl (det_assign rfl) rfl rfl trivial ?_
      refine be rfl ?_
      refine k_then ?_
      refine t_ret (k_thenR (?_))
      refine ret_any (vs := [_, _, _, _]) rfl rfl ⟨(.cellN tN68 rfl rfl (.tail _ (.tail _ (.head _))) rfl), (.cellN tN55 rfl rfl (.tail _ (.head _)) rfl), (.tmp rfl), (.tmp rfl), trivial⟩ rfl (fun w1 hs => ?_)
      exact end_fresh hs fun F2 h1 h2 _ => ⟨none, 0, 0, [], by rw [endA_at hc hat]; try rfl, by rw [endA_at hc hat]; exact zero_k F2⟩
    ·
      simp only [if_true]
      refine o1 rfl (det_move rfl) rfl rfl trivial ?_
      refine o1 rfl (det_eql rfl rfl) rfl rfl trivial ?_
      refine be rfl ?_
      refine k_then ?_
      refine t_condP beq_iff_eq rfl (fun hb => ?_) (fun hb => ?_)
      rotate_left
      · exfalso; exact hb rfl
      refine b0 ?_
      refine o1 rfl (det_move rfl) rfl rfl trivial ?_
      refine oW (cp := [_] ++ []) (rest := [_, _, _]) (.refl _) nofun rfl hb79 rfl rfl rfl trivial (fun w1 hs => pend_ok (p := stayS p t) (B := B) (m := m) (d := d) (G := none) (k := 0) (gk := 0) (gs := []) (b := []) hs.know (psK_of hK rfl rfl) h8 (SlO.nil 88 6) (by decide) (show p.busy = true → 0 ≤ p.snd.it.cl ∧ p.snd.it.cl ≤ 7 from check_cl hc) (satA hs) (satN hs) (satO hs)) (fun v2 cp2 F2 hF2 hN2 hr => ?_)
      obtain ⟨rfl, B2, d2, ms2, G2, k2, gk2, b2, rfl, hS2, hK2⟩ := hr
      refine tk_outB (pre := [_]) (b := b2) (post := [_, _, _]) ?_
      have hl2 := hS2.1
      refine o1 rfl (det_assign rfl) rfl rfl trivial ?_
      refine be rfl ?_
      refine k_then ?_
      refine t_seq ?_
      refine t_seq ?_
      refine b0 ?_
      refine o1 rfl (det_move rfl) rfl rfl trivial ?_
      refine o1 rfl (det_neq rfl rfl) rfl rfl trivial ?_
      refine be rfl ?_
      refine k_then ?_
      refine t_condP bne_iff_ne rfl (fun hb => ?_) (fun hb => ?_)
      ·
        --note:err
        refine t_seq ?_
        refine b0 ?_
        refine o1 rfl (det_build rfl (fun w => bld68_ w)) rfl rfl trivial ?_
        refine o1 rfl (det_build rfl (fun w => bld55_ w)) rfl rfl trivial ?_
        refine o1 rfl (det_move rfl) rfl rfl trivial ?_
        refine stN nofun rfl tN68 rfl rfl rfl (.tail (.tail .head)) rfl trivial rfl rfl ?_
        refine stN nofun rfl tN55 rfl rfl rfl (.tail .head) rfl trivial rfl rfl ?_
        refine o1 rfl (det_assign rfl) rfl rfl trivial ?_
        refine o1 rfl (det_assign rfl) rfl rfl trivial ?_
        refine be rfl ?_
        refine k_then ?_
        refine t_ret (k_thenR (?_))
        refine ret_any (vs := [_, _, _, _]) rfl rfl ⟨(.cellN tN68 rfl rfl (.tail _ (.tail _ (.head _))) rfl), (.cellN tN55 rfl rfl (.tail _ (.head _)) rfl), (.tmp rfl), (.tmp rfl), trivial⟩ rfl (fun w1 hs => ?_)
        exact end_fresh hs fun F2 h1 h2 _ => ⟨none, 0, 0, [], by rw [endA_err hc hat hb]; try rfl, by rw [endA_err hc hat hb]; exact zero_k F2⟩
      ·
        have hne := hb
        refine t_skip ?_
        refine k_then ?_
        refine t_seq ?_
        refine t_seq ?_
        refine b0 ?_
        refine o1 rfl (det_move rfl) rfl rfl trivial ?_
        refine o1 rfl (det_nilCheck rfl) rfl rfl trivial ?_
        refine o1 rfl (det_fieldAddr fld125_1 rfl) rfl rfl trivial ?_
        refine o1 rfl (det_load1 t1_83 rfl rfl (.head _) rfl) rfl rfl trivial ?_
        refine o1 rfl (det_lenS sl83 rfl) rfl rfl trivial ?_
        refine o1 rfl (det_eql rfl rfl) rfl rfl trivial ?_
        refine be rfl ?_
        refine k_then ?_
        refine t_condP beq_iff_eq rfl (fun hb => ?_) (fun hb => ?_)
        ·
          have hgn : (endS (stayS p t) []).2.1 = [] := rows_nil cmv_len (by decide) (by have h := hb; omega)
          --note:nil
          refine t_seq ?_
          refine b0 ?_
          refine o1 rfl (det_move rfl) rfl rfl trivial ?_
          refine o1 rfl (det_nilCheck rfl) rfl rfl trivial ?_
          refine o1 rfl (det_fieldAddr fld125_0 rfl) rfl rfl trivial ?_
          refine o1 rfl (det_loadN tN68 rfl rfl (.head _) rfl) rfl rfl trivial ?_
          refine o1 rfl (det_build rfl (fun w => bld55_ w)) rfl rfl trivial ?_
          refine stN nofun rfl tN68 rfl rfl rfl (.tail (.tail .head)) rfl trivial rfl rfl ?_
          refine stN nofun rfl tN55 rfl rfl rfl (.tail .head) rfl trivial rfl rfl ?_
          refine o1 rfl (det_assign rfl) rfl rfl trivial ?_
          refine o1 rfl (det_assign rfl) rfl rfl trivial ?_
          refine be rfl ?_
          refine k_then ?_
          refine t_ret (k_thenR (?_))
          refine ret_any (vs := [_, _, _, _]) rfl rfl ⟨(.cellN tN68 rfl rfl (.tail _ (.tail _ (.head _))) rfl), (.cellN tN55 rfl rfl (.tail _ (.head _)) rfl), (.tmp rfl), (.tmp rfl), trivial⟩ rfl (fun w1 hs => ?_)
          exact end_fresh hs fun F2 h1 h2 _ => ⟨B2, m, d2, ms2, by rw [endA_nil hc hat hne hgn]; try rfl, by rw [endA_nil hc hat hne hgn]; exact hK2.mono (fresh_incl (fresh_trans hN1 hN2) h1 h2)⟩
        ·
          obtain ⟨g, r, hgn⟩ : ∃ g r, (endS (stayS p t) []).2.1 = g :: r := by
            cases h : (endS (stayS p t) []).2.1 with
            | nil => rw [h] at hl2; simp [rowsV] at hl2; omega
            | cons g r => exact ⟨g, r, rfl⟩
          refine t_skip ?_
          refine k_then ?_
          refine t_seq ?_
          refine tk_freezeL (pre := [_, _, _, _]) hS2 rfl (fun Fb hFb hNb hKb => ?_)
          obtain ⟨ab, hab, hoff, hsp⟩ : ∃ a, G2 = some a ∧ a.off = 0 ∧ a.spot = none := by
            obtain ⟨A9, c9, h0, _, _, h9⟩ := hS2.slice
            cases h0
            exact h9 (by omega)
          obtain ⟨pb, ob, sb⟩ := ab
          simp only at hoff hsp
          subst hoff hsp hab
          have hit : ∀ j, j < 5 → Fb ((⟨pb, 1, none⟩ : Addr).add j) = (itv g.it)[j]? := fun j hj => by
            have h5 : (rowsV cmv (endS (stayS p t) []).2.1)[1 + j]? = (itv g.it)[j]? := by
              rw [hgn]
              have : j = 0 ∨ j = 1 ∨ j = 2 ∨ j = 3 ∨ j = 4 := by omega
              rcases this with rfl | rfl | rfl | rfl | rfl <;> rfl
            obtain ⟨u, hu⟩ : ∃ u, (itv g.it)[j]? = some u := ⟨_, List.getElem?_eq_getElem (by rw [itv_len]; exact hj)⟩
            rw [hu] at h5 ⊢
            obtain ⟨a, ha, h6⟩ := hKb (1 + j) u h5
            cases ha
            rw [add_mk] at h6 ⊢
            rw [Nat.zero_add] at h6
            exact h6
          refine bD mixed ?_
          refine r_bar 15 11 [] [0, 1, 2, 3, 4, 5, 6, 7, 8, 9, 10] _ (by kernel_rfl) (.cons_cons _ (.cons_cons _ (.cons _ (.refl _)))) ?_
          refine s1 rfl (det_move rfl) rfl rfl trivial rfl ?_
          refine s1 rfl (det_nilCheck rfl) rfl rfl trivial rfl ?_
          refine s1 rfl (det_fieldAddr fld125_0 rfl) rfl rfl trivial rfl ?_
          refine s1 rfl (det_loadN tN68 rfl rfl (.head _) rfl) rfl rfl trivial rfl ?_
          refine s1 rfl (det_move rfl) rfl rfl trivial rfl ?_
          refine s1 rfl (det_nilCheck rfl) rfl rfl trivial rfl ?_
          refine s1 rfl (det_fieldAddr fld125_1 rfl) rfl rfl trivial rfl ?_
          refine s1 rfl (det_load1 t1_83 rfl rfl (.head _) rfl) rfl rfl trivial rfl ?_
          first | (refine s1 rfl (det_indexAddr sl83 rfl rfl ?_) rfl rfl trivial rfl ?_; (· (first | decide | omega)))
          refine s1 rfl (det_fieldAddr fld88_1 rfl) rfl rfl trivial rfl ?_
          refine s1 rfl (det_loadKN tN55 rfl (r := itv g.it) rfl hit) rfl rfl trivial rfl ?_
          refine sg_nil ⟨?_, ?_⟩
          rotate_left
          ·
            exact bar_stN rfl tN68 rfl rfl rfl (.tail (.tail .head)) rfl trivial rfl rfl (.tail _ (.tail _ (.head _))) (.cons_cons _ (.cons_cons _ (.cons _ (.refl _))))
          refine stN (fun _ => by kernel_rfl) rfl tN68 rfl rfl rfl (.tail (.tail .head)) rfl trivial rfl rfl ?_
          refine stN (fun _ => by kernel_rfl) rfl tN55 rfl rfl rfl (.tail .head) rfl trivial rfl rfl ?_
          refine r_seg 15 15 [] [13, 14] (by kernel_rfl) ?_
          refine s1 rfl (det_assign rfl) rfl rfl trivial rfl ?_
          refine s1 rfl (det_assign rfl) rfl rfl trivial rfl ?_
          refine sg_nil ?_
          refine be rfl ?_
          refine k_then ?_
          refine t_ret ?_
          refine ret_any (vs := [_, _, _, _]) rfl rfl ⟨(.cellN tN68 rfl rfl (.tail _ (.tail _ (.head _))) rfl), (.cellN tN55 rfl rfl (.tail _ (.head _)) rfl), (.tmp rfl), (.tmp rfl), trivial⟩ rfl (fun w1 hs => ?_)
          exact end_fresh hs fun F3 h1 h2 _ => ⟨B2, m, d2, ms2, by rw [endA_one hc hat hne hgn]; try rfl, by rw [endA_one hc hat hne hgn]; exact hK2.mono (fun a u h => (fresh_incl (fresh_trans hN1 (fresh_trans hN2 hNb)) h1 h2) a u (hFb _ _ h))⟩
end Go.Proofs.Cp

/-
  Walks through layer 38.
-/
namespace Go.Proofs.Cp
open Go Go.Eng Go.Gt Go.Proofs.Gt Go.Sw Go.Qu Go.Ch Go.Po
set_option maxRecDepth 4000
theorem pnew_ok {w : World} {F : Know} (hF : ∀ a v, F a = some v → w.cell? a = some v) {l : Ln} (hl : LnK F l) (hln : l.g.n ≤ l.g.cap) {A : Option Addr} {n c : Nat} {xs : List Int} (hI : IntsK F .i64 A n xs) (hnb : n ≤ 1000000) : CallsF Try.prog 34 [.agg (lnv l).toArray, .slice A n c] w F (fun v F2 => ∃ B2 m2 d2 ms2, v = .tuple [.agg (psv (newS l xs).1 B2 m2 d2).toArray, .int .i64 (newS l xs).2].toArray ∧ PsK F2 (newS l xs).1 B2 m2 d2 ms2) := by
  refine fn_fresh (F := F) Try.func34 rfl Try.ntmps34 rfl hF ?_
  refine t_seq ?_
  refine b0 ?_
  refine om1 rfl (new_boxN rfl) rfl rfl trivial (fun p2 => ?_)
  refine om1 rfl (new_alloc z68) rfl rfl trivial (fun p4 => ?_)
  refine o1 rfl (det_assign rfl) rfl rfl trivial ?_
  refine be rfl ?_
  refine k_then ?_
  refine t_seq ?_
  refine t_seq ?_
  refine b0 ?_
  refine o1 rfl (det_loadN tN26 rfl rfl (.tail _ (.head _)) rfl) rfl rfl trivial ?_
  refine o1 rfl (det_call hb17 rfl rfl (fun w1 hs => cline_ok hs.know hl)) rfl rfl trivial ?_
  refine o1 rfl (det_assign rfl) rfl rfl trivial ?_
  refine be rfl ?_
  refine k_then ?_
  refine t_seq ?_
  refine b0 ?_
  refine o1 rfl (det_move rfl) rfl rfl trivial ?_
  refine o1 rfl (det_neq rfl rfl) rfl rfl trivial ?_
  refine be rfl ?_
  refine k_then ?_
  refine t_condP bne_iff_ne rfl (fun hb => ?_) (fun hb => ?_)
  ·
    --note:line
    refine t_seq ?_
    refine b0 ?_
    refine o1 rfl (det_build rfl (fun w => bld68_ w)) rfl rfl trivial ?_
    refine o1 rfl (det_move rfl) rfl rfl trivial ?_
    refine stN nofun rfl tN68 rfl rfl rfl .head rfl trivial rfl rfl ?_
    refine o1 rfl (det_assign rfl) rfl rfl trivial ?_
    refine be rfl ?_
    refine k_then ?_
    refine t_ret (k_thenR (?_))
    refine ret_any (vs := [_, _]) rfl rfl ⟨(.cellN tN68 rfl rfl (.head _) rfl), (.tmp rfl), trivial⟩ rfl (fun w1 hs => ?_)
    have hL0 : okL l = false := by cases h : okL l <;> simp_all
    rw [hL0]
    exact end_fresh hs fun F2 h1 h2 _ => ⟨none, 0, 0, [], by rw [newS_line hL0]; try rfl, by rw [newS_line hL0]; exact zero_k F2⟩
  ·
    have hL : okL l = true := by cases h : okL l <;> simp_all
    refine t_skip ?_
    refine k_then ?_
    refine t_seq ?_
    refine t_seq ?_
    refine b0 ?_
    refine o1 rfl (det_move rfl) rfl rfl trivial ?_
    refine o1 rfl (det_lenS sl65 rfl) rfl rfl trivial ?_
    refine o1 rfl (det_neq rfl rfl) rfl rfl trivial ?_
    refine be rfl ?_
    refine k_then ?_
    refine t_condP bne_iff_ne rfl (fun hb => ?_) (fun hb => ?_)
    ·
      --note:len
      refine t_seq ?_
      refine b0 ?_
      refine o1 rfl (det_build rfl (fun w => bld68_ w)) rfl rfl trivial ?_
      refine stN nofun rfl tN68 rfl rfl rfl .head rfl trivial rfl rfl ?_
      refine o1 rfl (det_assign rfl) rfl rfl trivial ?_
      refine be rfl ?_
      refine k_then ?_
      refine t_ret (k_thenR (?_))
      refine ret_any (vs := [_, _]) rfl rfl ⟨(.cellN tN68 rfl rfl (.head _) rfl), (.tmp rfl), trivial⟩ rfl (fun w1 hs => ?_)
      exact end_fresh hs fun F2 h1 h2 _ => ⟨none, 0, 0, [], by rw [newS_len hL (by have := hI.len; omega)]; try rfl, by rw [newS_len hL (by have := hI.len; omega)]; exact zero_k F2⟩
    ·
      have hn8 : xs.length = 8 := by have := hI.len; omega
      refine t_skip ?_
      refine k_then ?_
      refine t_seq ?_
      refine b0 ?_
      refine o1 rfl (det_loadN tN26 rfl rfl (.tail _ (.head _)) rfl) rfl rfl trivial ?_
      refine o1 rfl (det_build rfl (fun w => bld68_0 _ _ _ _ _ _ w)) rfl rfl trivial ?_
      refine om1 rfl (new_alloc z68) rfl rfl trivial (fun p7 => ?_)
      refine stN nofun rfl tN68 rfl rfl rfl .head rfl trivial rfl rfl ?_
      refine be rfl ?_
      refine k_then ?_
      refine t_seq ?_
      refine t_seq ?_
      refine b0 ?_
      refine o1 rfl (det_move rfl) rfl rfl trivial ?_
      refine o1 rfl (det_lenS sl65 rfl) rfl rfl trivial ?_
      refine o1 rfl (det_move rfl) rfl rfl trivial ?_
      refine be rfl ?_
      refine k_then ?_
      refine t_block ?_
      refine t_whileM (σ := NS) (fun s => [(26, .int .i64 (s.k : Int))]) (fun s => [(p7, .cells (psv (startP l) s.A s.k s.cp).toArray 68 (0, 0)), (p4, .cells (psv zeroP none 0 0).toArray 68 (0, 0)), (p2, .cells (lnv l).toArray 26 (0, 0))] ++ s.b) (fun s => n - s.k) (fun s => s.k ≤ n ∧ SlO 73 2 (.slice s.A s.k s.cp) s.k (rowsV qmv (newM xs s.k)) s.b ∧ ∀ i (hi : i < s.k) (h : i < xs.length), 0 ≤ xs[i] ∧ xs[i] ≤ 65536) ⟨0, none, 0, []⟩ (env0 := [(4, _), (7, _), (24, _), (25, _)]) ⟨Nat.zero_le _, SlO.nil 73 2, fun i hi => absurd hi (Nat.not_lt_zero i)⟩ ⟨rfl, trivial⟩ ⟨rfl, rfl, rfl, rfl, trivial⟩ (.refl _) ?_
      rintro s ⟨hsn, hS, hA⟩
      refine t_seq ?_
      refine b0 ?_
      refine o1 rfl (det_lss rfl rfl) rfl rfl trivial ?_
      refine be rfl ?_
      refine k_then ?_
      refine t_seq ?_
      refine t_condP decide_eq_true_iff rfl (fun hb => ?_) (fun hb => ?_)
      ·
        have hlt : s.k < xs.length := by have := hI.len; omega
        obtain ⟨A, rfl⟩ := hI.some hlt
        have hcx := hI.cell (i := (s.k : Int)) (by omega) (by omega)
        obtain ⟨x, hx⟩ : ∃ x, xs[s.k] = x := ⟨_, rfl⟩
        simp only [Int.toNat_natCast, hx] at hcx
        refine t_skip ?_
        refine k_then ?_
        refine t_seq ?_
        refine t_block ?_
        refine t_seq ?_
        refine b0 ?_
        first | (refine o1 rfl (det_indexAddr sl65 rfl rfl ?_) rfl rfl trivial ?_; (· (first | decide | omega)))
        refine o1 rfl (det_loadK t1_3 rfl hcx) rfl rfl trivial ?_
        refine o1 rfl (det_assign rfl) rfl rfl trivial ?_
        refine be rfl ?_
        refine k_then ?_
        refine t_seq ?_
        refine b0 ?_
        refine o1 rfl (det_move rfl) rfl rfl trivial ?_
        refine o1 rfl (det_call hb69 rfl rfl (fun w1 hs => qnew_ok hs.know)) rfl rfl trivial ?_
        refine o1 rfl (det_move rfl) rfl rfl trivial ?_
        refine o1 rfl (det_extract rfl rfl) rfl rfl trivial ?_
        refine o1 rfl (det_extract rfl rfl) rfl rfl trivial ?_
        refine om1 rfl (new_alloc z73) rfl rfl trivial (fun p10 => ?_)
        refine stN nofun rfl tN73 rfl rfl rfl .head rfl trivial rfl rfl ?_
        refine o1 rfl (det_assign rfl) rfl rfl trivial ?_
        refine be rfl ?_
        refine k_then ?_
        refine t_seq ?_
        refine t_seq ?_
        refine b0 ?_
        refine o1 rfl (det_move rfl) rfl rfl trivial ?_
        refine o1 rfl (det_neq rfl rfl) rfl rfl trivial ?_
        refine be rfl ?_
        refine k_then ?_
        refine t_condP bne_iff_ne rfl (fun hb => ?_) (fun hb => ?_)
        ·
          --note:bad
          refine t_seq ?_
          refine b0 ?_
          refine o1 rfl (det_build rfl (fun w => bld68_ w)) rfl rfl trivial ?_
          refine o1 rfl (det_move rfl) rfl rfl trivial ?_
          refine stN nofun rfl tN68 rfl rfl rfl (.tail (.tail .head)) rfl trivial rfl rfl ?_
          refine o1 rfl (det_assign rfl) rfl rfl trivial ?_
          refine be rfl ?_
          refine k_then ?_
          refine t_ret (k_thenR (k_blkR (k_thenR (k_thenR (k_blkR (k_thenR (?_)))))))
          refine ret_any (vs := [_, _]) rfl rfl ⟨(.cellN tN68 rfl rfl (.tail _ (.tail _ (.head _))) rfl), (.tmp rfl), trivial⟩ rfl (fun w1 hs => ?_)
          have hbd : ¬ (0 ≤ x ∧ x ≤ 65536) := by grind
          rw [if_neg hbd]
          exact end_fresh hs fun F2 h1 h2 _ => ⟨none, 0, 0, [], by rw [newS_bad hL hn8 hlt (by rw [hx]; exact hbd)]; try rfl, by rw [newS_bad hL hn8 hlt (by rw [hx]; exact hbd)]; exact zero_k F2⟩
        ·
          have hok : 0 ≤ x ∧ x ≤ 65536 := by grind
          simp only [if_pos hok]
          refine t_skip ?_
          refine k_then ?_
          refine b0 ?_
          refine o1 rfl (det_fieldAddr fld68_2 rfl) rfl rfl trivial ?_
          refine o1 rfl (det_load1 t1_66 rfl rfl (.tail _ (.head _)) rfl) rfl rfl trivial ?_
          refine o1 rfl (det_loadN tN73 rfl rfl (.head _) rfl) rfl rfl trivial ?_
          refine om1 rfl (new_buildSlice rfl (fun w => bsl66_1_0 _ _ _ _ w)) rfl rfl trivial (fun p42 => ?_)
          refine oAppS (pre := [_, _, _, _, _]) (b := _) (m := 1) (news := qmv (emptyM x)) nofun rfl ap66 rfl rfl rfl trivial hS rfl (fun w hs j u hj => hs.cellO (.head _) hj) (qmv_one' [emptyM x]) (by omega) (by simp only [maxLen]; omega) (fun A9 c9 b9 hS9 => ?_)
          replace hS9 : SlO 73 2 (.slice A9 (s.k + 1) c9) (s.k + 1) (rowsV qmv (newM xs (s.k + 1))) b9 := by rw [newM_succ hlt, rowsV_app, rowsV_one, hx]; exact hS9
          refine o1 rfl (det_fieldAddr fld68_2 rfl) rfl rfl trivial ?_
          refine st1 nofun rfl t1_66 rfl rfl rfl (.tail (.tail .head)) rfl trivial rfl ?_
          refine be rfl ?_
          refine k_blk ?_
          refine k_then ?_
          refine b0 ?_
          first | (refine o1 rfl (det_addI rfl rfl ?_) rfl rfl trivial ?_; (· omega)) | refine o1 rfl (det_add rfl rfl) rfl rfl trivial ?_
          refine o1 rfl (det_move rfl) rfl rfl trivial ?_
          refine be rfl ?_
          refine k_then ?_
          refine loop_back (⟨s.k + 1, A9, c9, b9⟩ : NS) ⟨by simp only; omega, hS9, fun i hi h => by
              by_cases e : i = s.k
              · subst e; rw [hx]; exact hok
              · exact hA i (by simp only at hi; omega) h⟩ (by simp only; omega) ⟨rfl, rfl, rfl, rfl, rfl, trivial⟩ (.cons _ (.cons _ (.refl _)))
      ·
        have hse : s.k = xs.length := by have := hI.len; omega
        refine t_exit ?_
        refine k_thenE ?_
        refine k_thenE ?_
        refine k_blkE ?_
        refine k_then ?_
        refine t_seq ?_
        refine b0 ?_
        refine o1 rfl (det_loadN tN68 rfl rfl (.head _) rfl) rfl rfl trivial ?_
        refine stN nofun rfl tN68 rfl rfl rfl (.tail .head) rfl trivial rfl rfl ?_
        refine o1 rfl (det_assign rfl) rfl rfl trivial ?_
        refine be rfl ?_
        refine k_then ?_
        refine t_ret ?_
        refine ret_any (vs := [_, _]) rfl rfl ⟨(.cellN tN68 rfl rfl (.tail _ (.head _)) rfl), (.tmp rfl), trivial⟩ rfl (fun w1 hs => ?_)
        rw [hse] at hS
        rw [newM_all (Nat.le_refl _)] at hS
        exact end_fresh hs fun F2 h1 h2 h3 => by
          have hok := newS_ok (l := l) hL hn8 (fun i hi => hA i (by omega) hi)
          obtain ⟨A7, c7, h0, hn7, hm7, hR⟩ := hS.rows qmv_len (by decide) (fun p cs t fr k hm => h3 p cs t fr k (by simp [hm]))
          cases h0
          exact ⟨s.A, s.k, s.cp, xs.map emptyM, by rw [hok]; rfl, by rw [hok]; exact new_k (EntK.mono hl h1) hln (by rw [hse]; exact hR) (by omega) hm7⟩
end Go.Proofs.Cp
