/-
  Walks through layers 36, 37 and 38 and their references.
-/
import Derived.Test.YtffocfffggfenaaCpC7
import Derived.Test.YtffocfffggfenaaSwPlain2
namespace Go.Proofs.Cp
open Go Go.Eng Go.Gt Go.Proofs.Gt Go.Sw Go.Qu Go.Ch
set_option maxRecDepth 4000

theorem down_on {hs : List Pt} {n : Nat} (h : waitC hs n = true) : (downL (n + 1)).filter (waitC hs) = (n : Int) :: (downL n).filter (waitC hs) := by
  show List.filter _ ((n : Int) :: downL n) = _
  rw [List.filter_cons_of_pos h]
theorem down_off {hs : List Pt} {n : Nat} (h : waitC hs n = false) : (downL (n + 1)).filter (waitC hs) = (downL n).filter (waitC hs) := by
  show List.filter _ ((n : Int) :: downL n) = _
  rw [List.filter_cons_of_neg (by rw [h]; simp)]
theorem at5 {P : Nat → Prop} (h0 : P 0) (h1 : P 1) (h2 : P 2) (h3 : P 3) (h4 : P 4) : ∀ j, j < 5 → P j := fun j hj => by
  match j, hj with
  | 0, _ => exact h0
  | 1, _ => exact h1
  | 2, _ => exact h2
  | 3, _ => exact h3
  | 4, _ => exact h4
/-- classes. -/
theorem classes_ok {w : World} {F : Know} (hF : ∀ a v, F a = some v → w.cell? a = some v) {l : Ln} {A : Option Addr} {n c : Nat} : CallsF Try.prog 59 [.agg [.slice l.g.A l.g.n l.g.cap, .int .i64 l.g.cyc, .int .i64 l.per, .int .i64 l.sh, .slice A n c].toArray] w noK (fun v F2 => ∃ q, v = .func (.func 90) [].toArray [.pointer (some ⟨q, 0, none⟩)].toArray ∧ (∀ j, j < 5 → F2 ((⟨q, 0, none⟩ : Addr).add j) = ([.slice l.g.A l.g.n l.g.cap, .int .i64 l.g.cyc, .int .i64 l.per, .int .i64 l.sh, .slice A n c] : List Value)[j]?)) := by
  refine fn_fresh (F := F) Try.func59 rfl Try.ntmps59 rfl hF ?_
  refine t_seq ?_
  refine b0 ?_
  refine om1 rfl (new_boxN rfl) rfl rfl trivial (fun p1 => ?_)
  refine o1 rfl (det_assign rfl) rfl rfl trivial ?_
  refine be rfl ?_
  refine k_then ?_
  refine t_seq ?_
  refine b0 ?_
  refine o1 rfl (det_makeFunc rfl rfl) rfl rfl trivial ?_
  refine o1 rfl (det_assign rfl) rfl rfl trivial ?_
  refine be rfl ?_
  refine k_then ?_
  refine t_ret ?_
  refine ret_tmp rfl rfl rfl (fun w1 hs => ?_)
  exact end_fresh hs fun F2 _ _ h => ⟨p1, rfl, kn_all (h p1 _ _ _ · (.head _)) 0 5 (fun j hj => by rw [Nat.zero_add, List.getElem?_toArray]) (at5 rfl rfl rfl rfl rfl)⟩

/-- Its iterator. -/
theorem class_gives {F : Know} {l : Ln} {A : Option Addr} {n c : Nat} {hs0 : List Pt} (hP : PK F A n hs0) (h8 : hs0.length = 8) {q : Nat} (h1 : (∀ j, j < 5 → F ((⟨q, 0, none⟩ : Addr).add j) = ([.slice l.g.A l.g.n l.g.cap, .int .i64 l.g.cyc, .int .i64 l.per, .int .i64 l.sh, .slice A n c] : List Value)[j]?)) : Gives2 Try.prog 90 [.pointer (some ⟨q, 0, none⟩)] F ((classL hs0).map fun x => [Value.int .i64 x]) := by
  refine fn_gives2 Try.func90 rfl Try.ntmps90 rfl fun l J Jx w hR hJ => ?_
  refine t_seq ?_
  refine b0 ?_
  refine o1 rfl (det_loadKN tN107 rfl rfl h1) rfl rfl trivial ?_
  refine o1 rfl (det_makeFunc rfl rfl) rfl rfl trivial ?_
  refine o1 rfl (det_assign rfl) rfl rfl trivial ?_
  refine be rfl ?_
  refine k_then ?_
  refine t_seq ?_
  refine b0 ?_
  refine o1 rfl (det_assign rfl) rfl rfl trivial ?_
  refine be rfl ?_
  refine k_then ?_
  refine t_block ?_
  refine t_whileG (σ := Nat × Nat) (fun s => [(4, .int .i64 ((s.2 : Int) - 1))]) (fun s => s.2) (fun s => fun w1 => (classL hs0).drop s.1 = (downL s.2).filter (waitC hs0) ∧ s.1 ≤ (classL hs0).length ∧ s.2 ≤ 8 ∧ ∃ ids, J s.1 ids w1) (0, 8) (env0 := [(0, _), (3, _)]) ⟨rfl, Nat.zero_le _, Nat.le_refl _, hJ⟩ ⟨rfl, trivial⟩ ⟨rfl, rfl, trivial⟩ ?_
  rintro s w1 ⟨hdr, hsl, hs8, hJ⟩
  refine t_seq ?_
  refine t_seq ?_
  refine b0 ?_
  refine o1 rfl (det_move rfl) rfl rfl trivial ?_
  refine o1 rfl (det_geq rfl rfl) rfl rfl trivial ?_
  refine be rfl ?_
  refine k_then ?_
  refine t_condP decide_eq_true_iff rfl (fun hb => ?_) (fun hb => ?_)
  ·
    obtain ⟨m, hm⟩ : ∃ m, s.2 = m + 1 := ⟨s.2 - 1, by omega⟩
    rw [hm] at hdr
    rw [show ((s.2 : Nat) : Int) - 1 = (m : Int) by omega]
    refine t_skip ?_
    refine k_then ?_
    refine t_seq ?_
    refine t_block ?_
    refine t_seq ?_
    refine b0 ?_
    refine o1 rfl (det_move rfl) rfl rfl trivial ?_
    refine o1 rfl (det_move rfl) rfl rfl trivial ?_
    refine o1 rfl (det_call hb57 rfl rfl (fun w1 hs => waits_ok hs.know hP h8 (by omega))) rfl rfl trivial ?_
    refine o2P Iff.rfl rfl (det_move rfl) rfl rfl trivial (fun hb => ?_) (fun hb => ?_)
    ·
      rw [down_on hb] at hdr
      obtain ⟨hlt, hget, hd2⟩ := drop_head hdr
      --note:on
      refine o1 rfl (det_move rfl) rfl rfl ⟨_, rfl, rfl⟩ ?_
      refine o1 rfl (det_move rfl) rfl rfl ⟨_, rfl, rfl⟩ ?_
      refine oY2 hR hJ (by rw [List.length_map]; exact hlt) nofun rfl rfl rfl rfl ⟨_, rfl, rfl⟩ (by rw [List.getElem_map, hget]; rfl) (fun w1 hJ F1 hF1 hO1 hK1 => ?_) (fun w1 hX => ?_)
      ·
        refine o1 rfl (det_not rfl) rfl rfl ⟨_, rfl, rfl⟩ ?_
        refine o1 rfl (det_pickT rfl rfl) rfl rfl trivial ?_
        refine be rfl ?_
        refine k_then ?_
        refine t_condF rfl ?_
        refine t_skip ?_
        refine k_blk ?_
        refine k_then ?_
        refine b0 ?_
        refine o1 rfl (det_move rfl) rfl rfl trivial ?_
        first | (refine o1 rfl (det_subI rfl rfl ?_) rfl rfl trivial ?_; (· omega)) | refine o1 rfl (det_sub rfl rfl) rfl rfl trivial ?_
        refine o1 rfl (det_assign rfl) rfl rfl trivial ?_
        refine be rfl ?_
        refine k_then ?_
        refine loop_backG2 hF1 (s.1 + 1, m) ⟨hd2, by show s.1 + 1 ≤ _; omega, by show m ≤ 8; omega, hJ⟩ (by show m < s.2; omega) ⟨(by show _ = some (Value.int .i64 ((m : Int) - 1)); rfl), rfl, rfl, trivial⟩
      ·
        refine o1 rfl (det_not rfl) rfl rfl ⟨_, rfl, rfl⟩ ?_
        refine o1 rfl (det_pickT rfl rfl) rfl rfl trivial ?_
        refine be rfl ?_
        refine k_then ?_
        refine t_condT rfl ?_
        refine t_ret (k_blkR (k_thenR (k_thenR (k_blkR (?_)))))
        refine ret_any (vs := []) rfl rfl trivial rfl (fun w1 hs => ?_)
        obtain ⟨ids, hX⟩ := hX
        exact ⟨_, rfl, ids, .inr (hR.stx _ _ _ hX hs.keep)⟩
    ·
      rw [down_off (by simpa using hb)] at hdr
      have hd2 := hdr
      refine on rfl rfl rfl ⟨_, rfl, .inl rfl⟩ ?_
      refine on rfl rfl rfl ⟨_, rfl, .inl rfl⟩ ?_
      refine on rfl rfl rfl ⟨_, rfl, .inl rfl⟩ ?_
      refine on rfl rfl rfl ⟨_, rfl, .inl rfl⟩ ?_
      refine o1 rfl (det_pickF rfl rfl) rfl rfl trivial ?_
      refine be rfl ?_
      refine k_then ?_
      refine t_condF rfl ?_
      refine t_skip ?_
      refine k_blk ?_
      refine k_then ?_
      refine b0 ?_
      refine o1 rfl (det_move rfl) rfl rfl trivial ?_
      first | (refine o1 rfl (det_subI rfl rfl ?_) rfl rfl trivial ?_; (· omega)) | refine o1 rfl (det_sub rfl rfl) rfl rfl trivial ?_
      refine o1 rfl (det_assign rfl) rfl rfl trivial ?_
      refine be rfl ?_
      refine k_then ?_
      refine loop_backG2 incl_refl (s.1, m) ⟨hd2, by show s.1 ≤ _; omega, by show m ≤ 8; omega, hJ⟩ (by show m < s.2; omega) ⟨(by show _ = some (Value.int .i64 ((m : Int) - 1)); rfl), rfl, rfl, trivial⟩
  ·
    have h0 : s.2 = 0 := by omega
    rw [h0] at hdr
    have hse := drop_nil (show _ = [] from hdr) hsl
    refine t_exit ?_
    refine k_thenE ?_
    refine k_thenE ?_
    refine k_blkE ?_
    refine end_none rfl rfl (fun w1 hs => ?_)
    obtain ⟨ids, hJ⟩ := hJ
    exact ⟨_, rfl, ids, .inl (hR.st _ _ _ _ (by rw [List.length_map, ← hse]; exact hJ) hs.keep)⟩

end Go.Proofs.Cp
