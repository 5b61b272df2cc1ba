/-
  Walks through layer 30 and its reference.
-/
import Derived.Test.YtgaliocgkjghnaaSwWL30
import Derived.Test.YtgaliocgkjghnaaSwWD30
namespace Go.Proofs.Sw
open Go Go.Eng Go.Gt Go.Proofs.Gt Go.Sw Go.Sv
set_option maxRecDepth 4000

theorem list_gl {w : World} {F : Know} (hF : ∀ a v, F a = some v → w.cell? a = some v) {p : Nat} (es : Ents) {cs : List Value} (hK : ∀ k u, cs[k]? = some u → F ⟨p, k, none⟩ = some u) (hcs : cs = cellsE es) (hr : rngE es) (hl : es.length ≤ 200) (hbd : ∀ (i : Nat) (h : i < es.length), -20000000 ≤ es[i].2 ∧ es[i].2 ≤ 20000000) {cap : Nat} :
    CallsF Try.prog 42 [.slice (some ⟨p, 0, none⟩) (es.length * 2) cap] w noK (fun v F1 => ∃ A1 cap1, v = .agg (glv ⟨A1, es.length, cap1, es, sumL es⟩).toArray ∧ GlK F1 ⟨A1, es.length, cap1, es, sumL es⟩) :=
  (list_ok hF (entK_lit hr (by rw [← hcs]; exact hK)) hl hbd).mono fun v F' ⟨A1, cap1, h1, _, h3⟩ => ⟨A1, cap1, h1, h3⟩
theorem few_k {F : Know} {g : Gl} (h : GlK F g) : GlK F (⟨g.A, min g.n 130, g.cap, g.es.take 130, g.cyc⟩ : Gl) := by
  have := EntK.take h 130
  rwa [Nat.min_comm] at this
/-- few. -/
theorem few_ok {w : World} {F : Know} (hF : ∀ a v, F a = some v → w.cell? a = some v) {g : Gl} (hcap : g.n ≤ g.cap) : Pure Try.prog 34 [.agg (glv g).toArray] w (.agg (glv (⟨g.A, min g.n 130, g.cap, g.es.take 130, g.cyc⟩ : Gl)).toArray) := by
  refine fn_pure (F := F) Try.func34 rfl Try.ntmps34 rfl hF ?_
  refine t_seq ?_
  refine b0 ?_
  refine om1 rfl (new_boxN rfl) rfl rfl trivial (fun p1 => ?_)
  refine om1 rfl (new_alloc z30) rfl rfl trivial (fun p2 => ?_)
  refine be rfl ?_
  refine k_then ?_
  refine t_seq ?_
  refine b0 ?_
  refine o1 rfl (det_fieldAddr fld30_0 rfl) rfl rfl trivial ?_
  refine o1 rfl (det_load1 t1_28 rfl rfl (.tail _ (.head _)) rfl) rfl rfl trivial ?_
  refine o1 rfl (det_fieldAddr fld30_0 rfl) rfl rfl trivial ?_
  refine o1 rfl (det_load1 t1_28 rfl rfl (.tail _ (.head _)) rfl) rfl rfl trivial ?_
  refine o1 rfl (det_lenS sl28 rfl) rfl rfl trivial ?_
  refine o1 rfl (det_min2 rfl rfl) rfl rfl trivial ?_
  rw [show min (g.n : Int) 130 = ((min g.n 130 : Nat) : Int) by omega]
  first | (refine o1 rfl (det_sliceTo sl28 rfl rfl ?_) rfl rfl trivial ?_; (· omega))
  refine o1 rfl (det_fieldAddr fld30_0 rfl) rfl rfl trivial ?_
  refine st1 nofun rfl t1_28 rfl rfl rfl (.tail .head) rfl trivial rfl ?_
  refine be rfl ?_
  refine k_then ?_
  refine t_seq ?_
  refine b0 ?_
  refine o1 rfl (det_loadN tN30 rfl rfl (.tail _ (.head _)) rfl) rfl rfl trivial ?_
  refine stN nofun rfl tN30 rfl rfl rfl .head rfl trivial rfl rfl ?_
  refine be rfl ?_
  refine k_then ?_
  refine t_ret ?_
  refine ret_any (vs := [_]) rfl rfl ⟨(.cellN tN30 rfl rfl (.head _) rfl), trivial⟩ rfl (fun w1 hs => ?_)
  exact ⟨rfl, hs.keep⟩

/-- sends. -/
theorem hsends_ok {w : World} {F : Know} (hF : ∀ a v, F a = some v → w.cell? a = some v) {g : Gl} (hE : GlK F g) {per most t lg : Int} : Pure Try.prog 43 [.agg (glv g).toArray, .int .i64 per, .int .i64 most, .int .i64 t, .int .i64 lg] w (.int .i64 (hsendS g.es g.cyc per most t lg)) := by
  refine fn_pure (F := F) Try.func43 rfl Try.ntmps43 rfl hF ?_
  refine t_seq ?_
  refine b0 ?_
  refine om1 rfl (new_boxN rfl) rfl rfl trivial (fun p5 => ?_)
  refine o1 rfl (det_assign rfl) rfl rfl trivial ?_
  refine be rfl ?_
  refine k_then ?_
  refine t_seq ?_
  refine b0 ?_
  refine o1 rfl (det_loadN tN30 rfl rfl (.head _) rfl) rfl rfl trivial ?_
  refine o1 rfl (det_move rfl) rfl rfl trivial ?_
  refine o1 rfl (det_move rfl) rfl rfl trivial ?_
  refine o1 rfl (det_move rfl) rfl rfl trivial ?_
  refine o1 rfl (det_move rfl) rfl rfl trivial ?_
  refine o1 rfl (det_call hb38 rfl rfl (fun w1 hs => Sends_ok hs.know hE)) rfl rfl trivial ?_
  refine o1 rfl (det_move rfl) rfl rfl trivial ?_
  refine o1 rfl (det_extract rfl rfl) rfl rfl trivial ?_
  refine o1 rfl (det_extract rfl rfl) rfl rfl trivial ?_
  refine o1 rfl (det_assign rfl) rfl rfl trivial ?_
  refine o1 rfl (det_assign rfl) rfl rfl trivial ?_
  refine be rfl ?_
  refine k_then ?_
  refine t_seq ?_
  refine t_seq ?_
  refine b0 ?_
  refine o1 rfl (det_move rfl) rfl rfl trivial ?_
  refine o1 rfl (det_neq rfl rfl) rfl rfl trivial ?_
  refine be rfl ?_
  refine k_then ?_
  refine t_condP bne_iff_ne rfl (fun hb => ?_) (fun hb => ?_)
  ·
    refine t_seq ?_
    refine b0 ?_
    refine o1 rfl (det_assign rfl) rfl rfl trivial ?_
    refine be rfl ?_
    refine k_then ?_
    refine t_ret (k_thenR (?_))
    refine ret_tmp rfl rfl rfl (fun w1 hs => ?_)
    exact ⟨by unfold hsendS; rw [if_neg hb], hs.keep⟩
  ·
    refine t_skip ?_
    refine k_then ?_
    refine t_seq ?_
    refine b0 ?_
    refine o1 rfl (det_move rfl) rfl rfl trivial ?_
    refine o1 rfl (det_assign rfl) rfl rfl trivial ?_
    refine be rfl ?_
    refine k_then ?_
    refine t_ret ?_
    refine ret_tmp rfl rfl rfl (fun w1 hs => ?_)
    exact ⟨by unfold hsendS; rw [if_pos (by simpa using hb)], hs.keep⟩

/-- is. -/
theorem his_ok {w : World} {F : Know} (hF : ∀ a v, F a = some v → w.cell? a = some v) {g : Gl} (hE : GlK F g) {per most r l : Int} : Pure Try.prog 64 [.agg (glv g).toArray, .int .i64 per, .int .i64 most, .int .i64 r, .int .i64 l] w (.bool (isS g.es g.cyc per most r l)) := by
  refine fn_pure (F := F) Try.func64 rfl Try.ntmps64 rfl hF ?_
  refine t_seq ?_
  refine b0 ?_
  refine om1 rfl (new_boxN rfl) rfl rfl trivial (fun p5 => ?_)
  refine o1 rfl (det_assign rfl) rfl rfl trivial ?_
  refine be rfl ?_
  refine k_then ?_
  refine t_seq ?_
  refine b0 ?_
  refine o1 rfl (det_loadN tN30 rfl rfl (.head _) rfl) rfl rfl trivial ?_
  refine o1 rfl (det_move rfl) rfl rfl trivial ?_
  refine o1 rfl (det_move rfl) rfl rfl trivial ?_
  refine o1 rfl (det_call hb40 rfl rfl (fun w1 hs => Of_ok hs.know hE)) rfl rfl trivial ?_
  refine o1 rfl (det_move rfl) rfl rfl trivial ?_
  refine o1 rfl (det_extract rfl rfl) rfl rfl trivial ?_
  refine o1 rfl (det_extract rfl rfl) rfl rfl trivial ?_
  refine om1 rfl (new_alloc z75) rfl rfl trivial (fun p11 => ?_)
  refine stN nofun rfl tN75 rfl rfl rfl .head rfl trivial rfl rfl ?_
  refine o1 rfl (det_assign rfl) rfl rfl trivial ?_
  refine be rfl ?_
  refine k_then ?_
  refine t_seq ?_
  refine b0 ?_
  refine o1 rfl (det_move rfl) rfl rfl trivial ?_
  refine o1 rfl (det_eql rfl rfl) rfl rfl trivial ?_
  refine o2P beq_iff_eq rfl (det_move rfl) rfl rfl trivial (fun hb => ?_) (fun hb => ?_)
  ·
    refine o1 rfl (det_loadN tN75 rfl rfl (.head _) rfl) rfl rfl ⟨_, rfl, rfl⟩ ?_
    refine o1 rfl (det_move rfl) rfl rfl ⟨_, rfl, rfl⟩ ?_
    refine o1 rfl (det_move rfl) rfl rfl ⟨_, rfl, rfl⟩ ?_
    refine o1 rfl (det_build rfl (fun w => bld75_0_1 _ _ w)) rfl rfl ⟨_, rfl, rfl⟩ ?_
    refine o1 rfl (det_eqlS rfl rfl eqg75 (fun w => eq75 _ _ _ _ w)) rfl rfl ⟨_, rfl, rfl⟩ ?_
    refine o1 rfl (det_pickT rfl rfl) rfl rfl trivial ?_
    refine o1 rfl (det_assign rfl) rfl rfl trivial ?_
    refine be rfl ?_
    refine k_then ?_
    refine t_ret ?_
    refine ret_tmp rfl rfl rfl (fun w1 hs => ?_)
    first | exact ⟨by unfold isS; rw [hb]; rfl, hs.keep⟩ | exact ⟨by unfold isS; rw [decide_eq_false hb]; rfl, hs.keep⟩
  ·
    refine on rfl rfl rfl ⟨_, rfl, .inl rfl⟩ ?_
    refine on rfl rfl rfl ⟨_, rfl, .inl rfl⟩ ?_
    refine on rfl rfl rfl ⟨_, rfl, .inl rfl⟩ ?_
    refine on rfl rfl rfl ⟨_, rfl, .inl rfl⟩ ?_
    refine on rfl rfl rfl ⟨_, rfl, .inl rfl⟩ ?_
    refine o1 rfl (det_pickF rfl rfl) rfl rfl trivial ?_
    refine o1 rfl (det_assign rfl) rfl rfl trivial ?_
    refine be rfl ?_
    refine k_then ?_
    refine t_ret ?_
    refine ret_tmp rfl rfl rfl (fun w1 hs => ?_)
    first | exact ⟨by unfold isS; rw [hb]; rfl, hs.keep⟩ | exact ⟨by unfold isS; rw [decide_eq_false hb]; rfl, hs.keep⟩

theorem hsends_at {w : World} {F : Know} (hF : ∀ a v, F a = some v → w.cell? a = some v) {g : Gl} (hE : GlK F g) {per most t lg n : Int} (e : hsendS g.es g.cyc per most t lg = n) : Pure Try.prog 43 [.agg (glv g).toArray, .int .i64 per, .int .i64 most, .int .i64 t, .int .i64 lg] w (.int .i64 n) := by
  have := hsends_ok hF hE (per := per) (most := most) (t := t) (lg := lg)
  rw [e] at this; exact this
theorem his_at {w : World} {F : Know} (hF : ∀ a v, F a = some v → w.cell? a = some v) {g : Gl} (hE : GlK F g) {per most r l : Int} {b : Bool} (e : isS g.es g.cyc per most r l = b) : Pure Try.prog 64 [.agg (glv g).toArray, .int .i64 per, .int .i64 most, .int .i64 r, .int .i64 l] w (.bool b) := by
  have := his_ok hF hE (per := per) (most := most) (r := r) (l := l)
  rw [e] at this; exact this
theorem Of_at {w : World} {F : Know} (hF : ∀ a v, F a = some v → w.cell? a = some v) {g : Gl} (hE : GlK F g) {per most : Int} {v : (Int × Int) × Int} (e : ofS g.es g.cyc per most = v) : Pure Try.prog 40 [.agg (glv g).toArray, .int .i64 per, .int .i64 most] w (.tuple [.agg [.int .i64 v.1.1, .int .i64 v.1.2].toArray, .int .i64 v.2].toArray) := by
  have := Of_ok hF hE (per := per) (most := most)
  rw [e] at this; exact this
theorem Sends_at {w : World} {F : Know} (hF : ∀ a v, F a = some v → w.cell? a = some v) {g : Gl} (hE : GlK F g) {per most t lg : Int} {v : Int × Int} (e : sendsA g.es g.cyc per most t lg = v) : Pure Try.prog 38 [.agg (glv g).toArray, .int .i64 per, .int .i64 most, .int .i64 t, .int .i64 lg] w (.tuple [.int .i64 v.1, .int .i64 v.2].toArray) := by
  have := Sends_ok hF hE (per := per) (most := most) (t := t) (lg := lg)
  rw [e] at this; exact this
theorem Yield_at {w : World} {F : Know} (hF : ∀ a v, F a = some v → w.cell? a = some v) {g : Gl} (hE : GlK F g) {per most y er : Int} (e : yieldA g.es g.cyc per most = y) (e2 : errS g.es g.cyc per most = er) : Pure Try.prog 35 [.agg (glv g).toArray, .int .i64 per, .int .i64 most] w (.tuple [.int .i64 y, .int .i64 er].toArray) := by
  have := Yield_ok hF hE (per := per) (most := most)
  rw [e, e2] at this; exact this
end Go.Proofs.Sw
