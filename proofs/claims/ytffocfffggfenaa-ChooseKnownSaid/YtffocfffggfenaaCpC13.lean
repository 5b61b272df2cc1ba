/-
  Walks through layers 36, 37 and 38 and their references.
-/
import Derived.Test.YtffocfffggfenaaCpC12
import Derived.Test.YtffocfffggfenaaChPlain8
namespace Go.Proofs.Cp
open Go Go.Eng Go.Gt Go.Proofs.Gt Go.Sw Go.Qu Go.Ch
set_option maxRecDepth 4000

section
variable {c : Cx} {F : Know} {cp rest : Own} {w : World}
theorem satA (hs : Sat c F (cp ++ rest) w) : ∀ a v, F a = some v → a.block ∉ idsO cp := fun a v ha hm => hs.away a v ha (by rw [List.map_append]; exact List.mem_append_left _ hm)
theorem satN (hs : Sat c F (cp ++ rest) w) : (idsO cp).Nodup := by
  have h := hs.nodup
  rw [List.map_append, List.nodup_append] at h
  exact h.1
theorem satO (hs : Sat c F (cp ++ rest) w) : ∀ y ∈ cp, w.heap[y.1]? = some y.2 := fun y hy => hs.own y (List.mem_append_left _ hy)
end
/-- Preempt's closure. -/
theorem pexp_on {w : World} {F : Know} (hF : ∀ a v, F a = some v → w.cell? a = some v) {l : Ln} (hl : LnK F l) {A : Option Addr} {n c : Nat} {hs0 : List Pt} (hP : PK F A n hs0) (hL : okL l = true) (hH : okH hs0 = true) {q1 q2 : Nat} {e : Int} (he : -4000000000000 ≤ e ∧ e ≤ 4000000000000) (h1 : (∀ j, j < 5 → F ((⟨q1, 0, none⟩ : Addr).add j) = ([.slice l.g.A l.g.n l.g.cap, .int .i64 l.g.cyc, .int .i64 l.per, .int .i64 l.sh, .slice A n c] : List Value)[j]?)) {cl : Int} (hcl : 0 ≤ cl ∧ cl ≤ 7) (haway : ∀ a v, F a = some v → a.block ∉ idsO ([(q2, .cells [.int .i64 e].toArray 3 (0, 0))])) (hnd : (idsO ([(q2, .cells [.int .i64 e].toArray 3 (0, 0))])).Nodup) (hown : ∀ y ∈ ([(q2, .cells [.int .i64 e].toArray 3 (0, 0))] : Own), w.heap[y.1]? = some y.2) : CallsOn Try.prog 67 [.int .i64 cl, .pointer (some ⟨q1, 0, none⟩), .pointer (some ⟨q2, 0, none⟩)] w ([(q2, .cells [.int .i64 e].toArray 3 (0, 0))]) (fun v cp1 => v = .bool (mayC l hs0 cl e) ∧ cp1 = [(q2, .cells [.int .i64 e].toArray 3 (0, 0))]) := by
  have h8 := (okH_parts hH).1
  have hLp := okL_parts hL
  refine fn_on (F := F) Try.func67 rfl Try.ntmps67 rfl hF haway hnd hown ?_
  refine t_seq ?_
  refine b0 ?_
  refine o1 rfl (det_assign rfl) rfl rfl trivial ?_
  refine be rfl ?_
  refine k_then ?_
  refine t_seq ?_
  refine b0 ?_
  refine o1 rfl (det_loadKN tN107 rfl rfl h1) rfl rfl trivial ?_
  refine o1 rfl (det_move rfl) rfl rfl trivial ?_
  refine o1 rfl (det_call hb57 rfl rfl (fun w1 hs => waits_ok (l := l) hs.know hP h8 hcl)) rfl rfl trivial ?_
  refine o2P Iff.rfl rfl (det_move rfl) rfl rfl trivial (fun hb => ?_) (fun hb => ?_)
  ·
    refine o1 rfl (det_loadKN tN107 rfl rfl h1) rfl rfl ⟨_, rfl, rfl⟩ ?_
    refine o1 rfl (det_move rfl) rfl rfl ⟨_, rfl, rfl⟩ ?_
    refine o1 rfl (det_load1 t1_3 rfl rfl (.head _) rfl) rfl rfl ⟨_, rfl, rfl⟩ ?_
    refine o1 rfl (det_call hb58 rfl rfl (fun w1 hs => vfits_ok hs.know hl hP h8 hcl hLp.2.1 (okH_left hH hcl) hLp.2.2 he)) rfl rfl ⟨_, rfl, rfl⟩ ?_
    refine o1 rfl (det_pickT rfl rfl) rfl rfl trivial ?_
    refine o1 rfl (det_assign rfl) rfl rfl trivial ?_
    refine be rfl ?_
    refine k_then ?_
    refine t_ret ?_
    refine ret_tmp rfl rfl rfl (fun w1 hs => ?_)
    exact end_on (bs := []) hs rfl ⟨by unfold mayC; grind, rfl⟩
  ·
    refine on rfl rfl rfl ⟨_, rfl, .inl rfl⟩ ?_
    refine on rfl rfl rfl ⟨_, rfl, .inl rfl⟩ ?_
    refine on rfl rfl rfl ⟨_, rfl, .inl rfl⟩ ?_
    refine on rfl rfl rfl ⟨_, rfl, .inl rfl⟩ ?_
    refine o1 rfl (det_pickF rfl rfl) rfl rfl trivial ?_
    refine o1 rfl (det_assign rfl) rfl rfl trivial ?_
    refine be rfl ?_
    refine k_then ?_
    refine t_ret ?_
    refine ret_tmp rfl rfl rfl (fun w1 hs => ?_)
    exact end_on (bs := []) hs rfl ⟨by unfold mayC; grind, rfl⟩

/-- Preempt. -/
theorem pre_ok {w : World} {F : Know} (hF : ∀ a v, F a = some v → w.cell? a = some v) {l : Ln} (hl : LnK F l) {A : Option Addr} {n c : Nat} {hs0 : List Pt} (hP : PK F A n hs0) (hnb : n ≤ 100000) {o b t : Int} : Pure Try.prog 28 [.agg (lnv l).toArray, .slice A n c, .int .i64 o, .int .i64 b, .int .i64 t] w (.tuple [.int .i64 (preA l hs0 o b t).1, .int .i64 (preA l hs0 o b t).2.1, .int .i64 (preA l hs0 o b t).2.2].toArray) := by
  refine fn_pure (F := F) Try.func28 rfl Try.ntmps28 rfl hF ?_
  refine t_seq ?_
  refine b0 ?_
  refine om1 rfl (new_boxN rfl) rfl rfl trivial (fun p5 => ?_)
  refine om1 rfl (new_alloc z3) rfl rfl trivial (fun p10 => ?_)
  refine o1 rfl (det_assign rfl) rfl rfl trivial ?_
  refine o1 rfl (det_assign rfl) rfl rfl trivial ?_
  refine be rfl ?_
  refine k_then ?_
  refine t_seq ?_
  refine t_seq ?_
  refine b0 ?_
  refine o1 rfl (det_loadN tN26 rfl rfl (.tail _ (.head _)) rfl) rfl rfl trivial ?_
  refine o1 rfl (det_move rfl) rfl rfl trivial ?_
  refine o1 rfl (det_move rfl) rfl rfl trivial ?_
  refine o1 rfl (det_call hb56 rfl rfl (fun w1 hs => cvalid_ok hs.know hl hP hnb)) rfl rfl trivial ?_
  refine o1 rfl (det_assign rfl) rfl rfl trivial ?_
  refine be rfl ?_
  refine k_then ?_
  refine t_seq ?_
  refine b0 ?_
  refine o1 rfl (det_move rfl) rfl rfl trivial ?_
  refine o1 rfl (det_neq rfl rfl) rfl rfl trivial ?_
  refine be rfl ?_
  refine k_then ?_
  refine t_condP bne_iff_ne rfl (fun hb => ?_) (fun hb => ?_)
  ·
    have he : errC l hs0 t ≠ 0 := hb
    refine t_seq ?_
    refine b0 ?_
    refine o1 rfl (det_move rfl) rfl rfl trivial ?_
    refine st1 nofun rfl t1_3 rfl rfl rfl .head rfl trivial rfl ?_
    refine o1 rfl (det_assign rfl) rfl rfl trivial ?_
    refine o1 rfl (det_assign rfl) rfl rfl trivial ?_
    refine be rfl ?_
    refine k_then ?_
    refine t_ret (k_thenR (?_))
    refine ret_any (vs := [_, _, _]) rfl rfl ⟨(.cell1 t1_3 rfl rfl (.head _) rfl), (.tmp rfl), (.tmp rfl), trivial⟩ rfl (fun w1 hs => ?_)
    first
    | exact ⟨by rw [show preA l hs0 o b t = (0, 0, errC l hs0 t) by unfold preA; rw [if_pos he]]; rfl, hs.keep⟩
    | exact ⟨by rw [show preA l hs0 o b t = (0, 0, 2) by unfold preA; rw [if_neg (by simp [he]), if_neg (by unfold argP; grind)]]; rfl, hs.keep⟩
    | exact ⟨by rw [show preA l hs0 o b t = (0, 0, 4) by unfold preA; rw [if_neg (by simp [he]), if_pos ha, if_neg (by unfold preB; grind)]]; rfl, hs.keep⟩
    | exact ⟨by rw [show preA l hs0 o b t = (preE l b t, preR l o b t, 0) by unfold preA; rw [if_neg (by simp [he]), if_pos ha, if_pos (by unfold preB; grind)]]; rfl, hs.keep⟩
  ·
    have he : errC l hs0 t = 0 := by simpa using hb
    obtain ⟨hL, hH, ht⟩ := errC_zero he
    have hLp := okL_parts hL
    have h8 := (okH_parts hH).1
    have hper := hLp.2.1
    refine t_skip ?_
    refine k_then ?_
    refine t_seq ?_
    refine t_seq ?_
    refine b0 ?_
    refine o1 rfl (det_move rfl) rfl rfl trivial ?_
    refine o1 rfl (det_lss rfl rfl) rfl rfl trivial ?_
    refine o2P decide_eq_true_iff rfl (det_move rfl) rfl rfl trivial (fun hb => ?_) (fun hb => ?_)
    ·
      refine on rfl rfl rfl ⟨_, rfl, .inl rfl⟩ ?_
      refine on rfl rfl rfl ⟨_, rfl, .inl rfl⟩ ?_
      refine o1 rfl (det_pickT rfl rfl) rfl rfl trivial ?_
      refine o1 rfl (det_move rfl) rfl rfl trivial ?_
      refine on rfl rfl rfl ⟨_, rfl, .inl rfl⟩ ?_
      refine on rfl rfl rfl ⟨_, rfl, .inl rfl⟩ ?_
      refine o1 rfl (det_pickT rfl rfl) rfl rfl trivial ?_
      refine o1 rfl (det_move rfl) rfl rfl trivial ?_
      refine on rfl rfl rfl ⟨_, rfl, .inl rfl⟩ ?_
      refine on rfl rfl rfl ⟨_, rfl, .inl rfl⟩ ?_
      refine on rfl rfl rfl ⟨_, rfl, .inl rfl⟩ ?_
      refine o1 rfl (det_pickT rfl rfl) rfl rfl trivial ?_
      refine o1 rfl (det_move rfl) rfl rfl trivial ?_
      refine on rfl rfl rfl ⟨_, rfl, .inl rfl⟩ ?_
      refine on rfl rfl rfl ⟨_, rfl, .inl rfl⟩ ?_
      refine on rfl rfl rfl ⟨_, rfl, .inl rfl⟩ ?_
      refine on rfl rfl rfl ⟨_, rfl, .inl rfl⟩ ?_
      refine on rfl rfl rfl ⟨_, rfl, .inl rfl⟩ ?_
      refine on rfl rfl rfl ⟨_, rfl, .inl rfl⟩ ?_
      refine on rfl rfl rfl ⟨_, rfl, .inl rfl⟩ ?_
      refine on rfl rfl rfl ⟨_, rfl, .inl rfl⟩ ?_
      refine o1 rfl (det_pickT rfl rfl) rfl rfl trivial ?_
      refine be rfl ?_
      refine k_then ?_
      refine t_condT rfl ?_
      refine t_seq ?_
      refine b0 ?_
      refine st1 nofun rfl t1_3 rfl rfl rfl .head rfl trivial rfl ?_
      refine o1 rfl (det_assign rfl) rfl rfl trivial ?_
      refine o1 rfl (det_assign rfl) rfl rfl trivial ?_
      refine be rfl ?_
      refine k_then ?_
      refine t_ret (k_thenR (?_))
      refine ret_any (vs := [_, _, _]) rfl rfl ⟨(.cell1 t1_3 rfl rfl (.head _) rfl), (.tmp rfl), (.tmp rfl), trivial⟩ rfl (fun w1 hs => ?_)
      first
      | exact ⟨by rw [show preA l hs0 o b t = (0, 0, errC l hs0 t) by unfold preA; rw [if_pos he]]; rfl, hs.keep⟩
      | exact ⟨by rw [show preA l hs0 o b t = (0, 0, 2) by unfold preA; rw [if_neg (by simp [he]), if_neg (by unfold argP; grind)]]; rfl, hs.keep⟩
      | exact ⟨by rw [show preA l hs0 o b t = (0, 0, 4) by unfold preA; rw [if_neg (by simp [he]), if_pos ha, if_neg (by unfold preB; grind)]]; rfl, hs.keep⟩
      | exact ⟨by rw [show preA l hs0 o b t = (preE l b t, preR l o b t, 0) by unfold preA; rw [if_neg (by simp [he]), if_pos ha, if_pos (by unfold preB; grind)]]; rfl, hs.keep⟩
    ·
      refine o1 rfl (det_move rfl) rfl rfl ⟨_, rfl, rfl⟩ ?_
      refine o1 rfl (det_gtr rfl rfl) rfl rfl ⟨_, rfl, rfl⟩ ?_
      refine o1 rfl (det_pickF rfl rfl) rfl rfl trivial ?_
      refine o2P decide_eq_true_iff rfl (det_move rfl) rfl rfl trivial (fun hb => ?_) (fun hb => ?_)
      ·
        refine on rfl rfl rfl ⟨_, rfl, .inl rfl⟩ ?_
        refine on rfl rfl rfl ⟨_, rfl, .inl rfl⟩ ?_
        refine o1 rfl (det_pickT rfl rfl) rfl rfl trivial ?_
        refine o1 rfl (det_move rfl) rfl rfl trivial ?_
        refine on rfl rfl rfl ⟨_, rfl, .inl rfl⟩ ?_
        refine on rfl rfl rfl ⟨_, rfl, .inl rfl⟩ ?_
        refine on rfl rfl rfl ⟨_, rfl, .inl rfl⟩ ?_
        refine o1 rfl (det_pickT rfl rfl) rfl rfl trivial ?_
        refine o1 rfl (det_move rfl) rfl rfl trivial ?_
        refine on rfl rfl rfl ⟨_, rfl, .inl rfl⟩ ?_
        refine on rfl rfl rfl ⟨_, rfl, .inl rfl⟩ ?_
        refine on rfl rfl rfl ⟨_, rfl, .inl rfl⟩ ?_
        refine on rfl rfl rfl ⟨_, rfl, .inl rfl⟩ ?_
        refine on rfl rfl rfl ⟨_, rfl, .inl rfl⟩ ?_
        refine on rfl rfl rfl ⟨_, rfl, .inl rfl⟩ ?_
        refine on rfl rfl rfl ⟨_, rfl, .inl rfl⟩ ?_
        refine on rfl rfl rfl ⟨_, rfl, .inl rfl⟩ ?_
        refine o1 rfl (det_pickT rfl rfl) rfl rfl trivial ?_
        refine be rfl ?_
        refine k_then ?_
        refine t_condT rfl ?_
        refine t_seq ?_
        refine b0 ?_
        refine st1 nofun rfl t1_3 rfl rfl rfl .head rfl trivial rfl ?_
        refine o1 rfl (det_assign rfl) rfl rfl trivial ?_
        refine o1 rfl (det_assign rfl) rfl rfl trivial ?_
        refine be rfl ?_
        refine k_then ?_
        refine t_ret (k_thenR (?_))
        refine ret_any (vs := [_, _, _]) rfl rfl ⟨(.cell1 t1_3 rfl rfl (.head _) rfl), (.tmp rfl), (.tmp rfl), trivial⟩ rfl (fun w1 hs => ?_)
        first
        | exact ⟨by rw [show preA l hs0 o b t = (0, 0, errC l hs0 t) by unfold preA; rw [if_pos he]]; rfl, hs.keep⟩
        | exact ⟨by rw [show preA l hs0 o b t = (0, 0, 2) by unfold preA; rw [if_neg (by simp [he]), if_neg (by unfold argP; grind)]]; rfl, hs.keep⟩
        | exact ⟨by rw [show preA l hs0 o b t = (0, 0, 4) by unfold preA; rw [if_neg (by simp [he]), if_pos ha, if_neg (by unfold preB; grind)]]; rfl, hs.keep⟩
        | exact ⟨by rw [show preA l hs0 o b t = (preE l b t, preR l o b t, 0) by unfold preA; rw [if_neg (by simp [he]), if_pos ha, if_pos (by unfold preB; grind)]]; rfl, hs.keep⟩
      ·
        refine o1 rfl (det_move rfl) rfl rfl ⟨_, rfl, rfl⟩ ?_
        refine o1 rfl (det_lss rfl rfl) rfl rfl ⟨_, rfl, rfl⟩ ?_
        refine o1 rfl (det_pickF rfl rfl) rfl rfl trivial ?_
        refine o2P decide_eq_true_iff rfl (det_move rfl) rfl rfl trivial (fun hb => ?_) (fun hb => ?_)
        ·
          refine on rfl rfl rfl ⟨_, rfl, .inl rfl⟩ ?_
          refine on rfl rfl rfl ⟨_, rfl, .inl rfl⟩ ?_
          refine on rfl rfl rfl ⟨_, rfl, .inl rfl⟩ ?_
          refine o1 rfl (det_pickT rfl rfl) rfl rfl trivial ?_
          refine o1 rfl (det_move rfl) rfl rfl trivial ?_
          refine on rfl rfl rfl ⟨_, rfl, .inl rfl⟩ ?_
          refine on rfl rfl rfl ⟨_, rfl, .inl rfl⟩ ?_
          refine on rfl rfl rfl ⟨_, rfl, .inl rfl⟩ ?_
          refine on rfl rfl rfl ⟨_, rfl, .inl rfl⟩ ?_
          refine on rfl rfl rfl ⟨_, rfl, .inl rfl⟩ ?_
          refine on rfl rfl rfl ⟨_, rfl, .inl rfl⟩ ?_
          refine on rfl rfl rfl ⟨_, rfl, .inl rfl⟩ ?_
          refine on rfl rfl rfl ⟨_, rfl, .inl rfl⟩ ?_
          refine o1 rfl (det_pickT rfl rfl) rfl rfl trivial ?_
          refine be rfl ?_
          refine k_then ?_
          refine t_condT rfl ?_
          refine t_seq ?_
          refine b0 ?_
          refine st1 nofun rfl t1_3 rfl rfl rfl .head rfl trivial rfl ?_
          refine o1 rfl (det_assign rfl) rfl rfl trivial ?_
          refine o1 rfl (det_assign rfl) rfl rfl trivial ?_
          refine be rfl ?_
          refine k_then ?_
          refine t_ret (k_thenR (?_))
          refine ret_any (vs := [_, _, _]) rfl rfl ⟨(.cell1 t1_3 rfl rfl (.head _) rfl), (.tmp rfl), (.tmp rfl), trivial⟩ rfl (fun w1 hs => ?_)
          first
          | exact ⟨by rw [show preA l hs0 o b t = (0, 0, errC l hs0 t) by unfold preA; rw [if_pos he]]; rfl, hs.keep⟩
          | exact ⟨by rw [show preA l hs0 o b t = (0, 0, 2) by unfold preA; rw [if_neg (by simp [he]), if_neg (by unfold argP; grind)]]; rfl, hs.keep⟩
          | exact ⟨by rw [show preA l hs0 o b t = (0, 0, 4) by unfold preA; rw [if_neg (by simp [he]), if_pos ha, if_neg (by unfold preB; grind)]]; rfl, hs.keep⟩
          | exact ⟨by rw [show preA l hs0 o b t = (preE l b t, preR l o b t, 0) by unfold preA; rw [if_neg (by simp [he]), if_pos ha, if_pos (by unfold preB; grind)]]; rfl, hs.keep⟩
        ·
          refine o1 rfl (det_move rfl) rfl rfl ⟨_, rfl, rfl⟩ ?_
          refine o1 rfl (det_move rfl) rfl rfl ⟨_, rfl, rfl⟩ ?_
          refine o1 rfl (det_gtr rfl rfl) rfl rfl ⟨_, rfl, rfl⟩ ?_
          refine o1 rfl (det_pickF rfl rfl) rfl rfl trivial ?_
          refine o2P decide_eq_true_iff rfl (det_move rfl) rfl rfl trivial (fun hb => ?_) (fun hb => ?_)
          ·
            refine on rfl rfl rfl ⟨_, rfl, .inl rfl⟩ ?_
            refine on rfl rfl rfl ⟨_, rfl, .inl rfl⟩ ?_
            refine on rfl rfl rfl ⟨_, rfl, .inl rfl⟩ ?_
            refine on rfl rfl rfl ⟨_, rfl, .inl rfl⟩ ?_
            refine on rfl rfl rfl ⟨_, rfl, .inl rfl⟩ ?_
            refine on rfl rfl rfl ⟨_, rfl, .inl rfl⟩ ?_
            refine on rfl rfl rfl ⟨_, rfl, .inl rfl⟩ ?_
            refine on rfl rfl rfl ⟨_, rfl, .inl rfl⟩ ?_
            refine o1 rfl (det_pickT rfl rfl) rfl rfl trivial ?_
            refine be rfl ?_
            refine k_then ?_
            refine t_condT rfl ?_
            refine t_seq ?_
            refine b0 ?_
            refine st1 nofun rfl t1_3 rfl rfl rfl .head rfl trivial rfl ?_
            refine o1 rfl (det_assign rfl) rfl rfl trivial ?_
            refine o1 rfl (det_assign rfl) rfl rfl trivial ?_
            refine be rfl ?_
            refine k_then ?_
            refine t_ret (k_thenR (?_))
            refine ret_any (vs := [_, _, _]) rfl rfl ⟨(.cell1 t1_3 rfl rfl (.head _) rfl), (.tmp rfl), (.tmp rfl), trivial⟩ rfl (fun w1 hs => ?_)
            first
            | exact ⟨by rw [show preA l hs0 o b t = (0, 0, errC l hs0 t) by unfold preA; rw [if_pos he]]; rfl, hs.keep⟩
            | exact ⟨by rw [show preA l hs0 o b t = (0, 0, 2) by unfold preA; rw [if_neg (by simp [he]), if_neg (by unfold argP; grind)]]; rfl, hs.keep⟩
            | exact ⟨by rw [show preA l hs0 o b t = (0, 0, 4) by unfold preA; rw [if_neg (by simp [he]), if_pos ha, if_neg (by unfold preB; grind)]]; rfl, hs.keep⟩
            | exact ⟨by rw [show preA l hs0 o b t = (preE l b t, preR l o b t, 0) by unfold preA; rw [if_neg (by simp [he]), if_pos ha, if_pos (by unfold preB; grind)]]; rfl, hs.keep⟩
          ·
            refine o1 rfl (det_move rfl) rfl rfl ⟨_, rfl, rfl⟩ ?_
            refine o1 rfl (det_move rfl) rfl rfl ⟨_, rfl, rfl⟩ ?_
            refine o1 rfl (det_move rfl) rfl rfl ⟨_, rfl, rfl⟩ ?_
            refine o1 rfl (det_fieldAddr fld26_1 rfl) rfl rfl ⟨_, rfl, rfl⟩ ?_
            refine o1 rfl (det_load1 t1_3 rfl rfl (.tail _ (.head _)) rfl) rfl rfl ⟨_, rfl, rfl⟩ ?_
            have ho : 0 ≤ o * l.per ∧ o * l.per ≤ 1542 * 1000 := ⟨Int.mul_nonneg (by omega) (by omega), Int.mul_le_mul (by omega) hper.2 (by omega) (by decide)⟩
            first | (refine o1 rfl (det_mulI rfl rfl ?_) rfl rfl ⟨_, rfl, rfl⟩ ?_; (· omega)) | refine o1 rfl (det_mul rfl rfl) rfl rfl ⟨_, rfl, rfl⟩ ?_
            first | (refine o1 rfl (det_addI rfl rfl ?_) rfl rfl ⟨_, rfl, rfl⟩ ?_; (· omega)) | refine o1 rfl (det_add rfl rfl) rfl rfl ⟨_, rfl, rfl⟩ ?_
            refine o1 rfl (det_gtr rfl rfl) rfl rfl ⟨_, rfl, rfl⟩ ?_
            refine o1 rfl (det_pickF rfl rfl) rfl rfl trivial ?_
            refine be rfl ?_
            refine k_then ?_
            refine t_condP decide_eq_true_iff rfl (fun hb => ?_) (fun hb => ?_)
            ·
              have ha : argP l o b t = false := by unfold argP; grind
              refine t_seq ?_
              refine b0 ?_
              refine st1 nofun rfl t1_3 rfl rfl rfl .head rfl trivial rfl ?_
              refine o1 rfl (det_assign rfl) rfl rfl trivial ?_
              refine o1 rfl (det_assign rfl) rfl rfl trivial ?_
              refine be rfl ?_
              refine k_then ?_
              refine t_ret (k_thenR (?_))
              refine ret_any (vs := [_, _, _]) rfl rfl ⟨(.cell1 t1_3 rfl rfl (.head _) rfl), (.tmp rfl), (.tmp rfl), trivial⟩ rfl (fun w1 hs => ?_)
              first
              | exact ⟨by rw [show preA l hs0 o b t = (0, 0, errC l hs0 t) by unfold preA; rw [if_pos he]]; rfl, hs.keep⟩
              | exact ⟨by rw [show preA l hs0 o b t = (0, 0, 2) by unfold preA; rw [if_neg (by simp [he]), if_neg (by unfold argP; grind)]]; rfl, hs.keep⟩
              | exact ⟨by rw [show preA l hs0 o b t = (0, 0, 4) by unfold preA; rw [if_neg (by simp [he]), if_pos ha, if_neg (by unfold preB; grind)]]; rfl, hs.keep⟩
              | exact ⟨by rw [show preA l hs0 o b t = (preE l b t, preR l o b t, 0) by unfold preA; rw [if_neg (by simp [he]), if_pos ha, if_pos (by unfold preB; grind)]]; rfl, hs.keep⟩
            ·
              have ha : argP l o b t = true := by unfold argP; grind
              have hab : (84 ≤ o ∧ o ≤ 1542) ∧ 0 ≤ b ∧ b ≤ t ∧ t ≤ b + o * l.per := by unfold argP at ha; simp at ha; exact ⟨⟨ha.1, ha.2.1⟩, ha.2.2⟩
              have hcd := ceil_bd (x := t - b) (o := o) (p := l.per) hper.1 (by omega) (by omega)
              have hKd : preK l b t = max 64 ((t - b + l.per - 1) / l.per) := rfl
              have hKb : 64 ≤ preK l b t ∧ preK l b t ≤ 1542 := by rw [hKd]; omega
              have hmk : 0 ≤ (preK l b t + 24) * l.per ∧ (preK l b t + 24) * l.per ≤ 1566 * 1000 := ⟨Int.mul_nonneg (by omega) (by omega), Int.mul_le_mul (by omega) hper.2 (by omega) (by decide)⟩
              have hmk2 := hmk
              rw [hKd] at hmk2
              have hebd : -4000000000000 ≤ preE l b t ∧ preE l b t ≤ 4000000000000 := by unfold preE; omega
              refine t_skip ?_
              refine k_then ?_
              refine t_seq ?_
              refine b0 ?_
              refine o1 rfl (det_loadN tN26 rfl rfl (.tail _ (.head _)) rfl) rfl rfl trivial ?_
              refine o1 rfl (det_move rfl) rfl rfl trivial ?_
              refine o1 rfl (det_build rfl (fun w => bld107_0_1 _ _ _ _ _ _ _ _ _ w)) rfl rfl trivial ?_
              refine om1 rfl (new_alloc z107) rfl rfl trivial (fun p14 => ?_)
              refine stN nofun rfl tN107 rfl rfl rfl .head rfl trivial rfl rfl ?_
              refine be rfl ?_
              refine k_then ?_
              refine t_seq ?_
              refine b0 ?_
              refine o1 rfl (det_move rfl) rfl rfl trivial ?_
              refine o1 rfl (det_move rfl) rfl rfl trivial ?_
              first | (refine o1 rfl (det_subI rfl rfl ?_) rfl rfl trivial ?_; (· omega)) | refine o1 rfl (det_sub rfl rfl) rfl rfl trivial ?_
              refine o1 rfl (det_fieldAddr fld26_1 rfl) rfl rfl trivial ?_
              refine o1 rfl (det_load1 t1_3 rfl rfl (.tail _ (.tail _ (.head _))) rfl) rfl rfl trivial ?_
              first | (refine o1 rfl (det_addI rfl rfl ?_) rfl rfl trivial ?_; (· omega)) | refine o1 rfl (det_add rfl rfl) rfl rfl trivial ?_
              first | (refine o1 rfl (det_subI rfl rfl ?_) rfl rfl trivial ?_; (· omega)) | refine o1 rfl (det_sub rfl rfl) rfl rfl trivial ?_
              refine o1 rfl (det_fieldAddr fld26_1 rfl) rfl rfl trivial ?_
              refine o1 rfl (det_load1 t1_3 rfl rfl (.tail _ (.tail _ (.head _))) rfl) rfl rfl trivial ?_
              first | (refine o1 rfl (det_quoP rfl rfl ?_ ?_) rfl rfl trivial ?_; (· omega); (· omega)) | (refine o1 rfl (det_quoI rfl rfl ?_ ?_) rfl rfl trivial ?_; (· (first | decide | omega)); (· omega)) | (refine o1 rfl (det_quo rfl rfl ?_) rfl rfl trivial ?_; (· (first | decide | omega)))
              refine o1 rfl (det_max2 rfl rfl) rfl rfl trivial ?_
              refine o1 rfl (det_assign rfl) rfl rfl trivial ?_
              refine be rfl ?_
              refine k_then ?_
              refine t_seq ?_
              refine b0 ?_
              refine o1 rfl (det_move rfl) rfl rfl trivial ?_
              refine o1 rfl (det_move rfl) rfl rfl trivial ?_
              first | (refine o1 rfl (det_addI rfl rfl ?_) rfl rfl trivial ?_; (· omega)) | refine o1 rfl (det_add rfl rfl) rfl rfl trivial ?_
              refine o1 rfl (det_fieldAddr fld26_1 rfl) rfl rfl trivial ?_
              refine o1 rfl (det_load1 t1_3 rfl rfl (.tail _ (.tail _ (.head _))) rfl) rfl rfl trivial ?_
              first | (refine o1 rfl (det_mulI rfl rfl ?_) rfl rfl trivial ?_; (· omega)) | refine o1 rfl (det_mul rfl rfl) rfl rfl trivial ?_
              first | (refine o1 rfl (det_addI rfl rfl ?_) rfl rfl trivial ?_; (· omega)) | refine o1 rfl (det_add rfl rfl) rfl rfl trivial ?_
              refine o1 rfl (det_move rfl) rfl rfl trivial ?_
              refine o1 rfl (det_move rfl) rfl rfl trivial ?_
              first | (refine o1 rfl (det_subI rfl rfl ?_) rfl rfl trivial ?_; (· omega)) | refine o1 rfl (det_sub rfl rfl) rfl rfl trivial ?_
              first | (refine o1 rfl (det_addI rfl rfl ?_) rfl rfl trivial ?_; (· omega)) | refine o1 rfl (det_add rfl rfl) rfl rfl trivial ?_
              refine st1 nofun rfl t1_3 rfl rfl rfl (.tail .head) rfl trivial rfl ?_
              refine o1 rfl (det_assign rfl) rfl rfl trivial ?_
              refine be rfl ?_
              refine k_then ?_
              refine t_seq ?_
              refine b0 ?_
              refine o1 rfl (det_makeFunc rfl rfl) rfl rfl trivial ?_
              refine o1 rfl (det_assign rfl) rfl rfl trivial ?_
              refine be rfl ?_
              refine k_then ?_
              refine t_seq ?_
              refine t_seq ?_
              refine b0 ?_
              refine tk_freeze (pre := []) rfl (fun Fa hFa hNFa hKFa => ?_)
              have h9 : ∀ j, j < 5 → Fa ((⟨p14, 0, none⟩ : Addr).add j) = ([.slice l.g.A l.g.n l.g.cap, .int .i64 l.g.cyc, .int .i64 l.per, .int .i64 l.sh, .slice A n c] : List Value)[j]? := by
                intro j hj
                obtain ⟨u, hu⟩ : ∃ u, ([.slice l.g.A l.g.n l.g.cap, .int .i64 l.g.cyc, .int .i64 l.per, .int .i64 l.sh, .slice A n c] : List Value)[j]? = some u := ⟨_, List.getElem?_eq_getElem hj⟩
                rw [hu, add_mk, Nat.zero_add]
                exact hKFa j u hu
              have hla : LnK Fa l := EntK.mono hl hFa
              have hPa : PK Fa A n hs0 := hP.mono hFa
              refine o1 rfl (det_move rfl) rfl rfl trivial ?_
              refine o1 rfl (det_move rfl) rfl rfl trivial ?_
              first | (refine o1 rfl (det_subI rfl rfl ?_) rfl rfl trivial ?_; (· omega)) | refine o1 rfl (det_sub rfl rfl) rfl rfl trivial ?_
              refine o1 rfl (det_lss rfl rfl) rfl rfl trivial ?_
              refine o2P decide_eq_true_iff rfl (det_move rfl) rfl rfl trivial (fun hb => ?_) (fun hb => ?_)
              ·
                refine on rfl rfl rfl ⟨_, rfl, .inl rfl⟩ ?_
                refine on rfl rfl rfl ⟨_, rfl, .inl rfl⟩ ?_
                refine on rfl rfl rfl ⟨_, rfl, .inl rfl⟩ ?_
                refine on rfl rfl rfl ⟨_, rfl, .inl rfl⟩ ?_
                refine on rfl rfl rfl ⟨_, rfl, .inr rfl⟩ ?_
                refine on rfl rfl rfl ⟨_, rfl, .inr rfl⟩ ?_
                refine on rfl rfl rfl ⟨_, rfl, .inr rfl⟩ ?_
                refine on rfl rfl rfl ⟨_, rfl, .inl rfl⟩ ?_
                refine o1 rfl (det_pickT rfl rfl) rfl rfl trivial ?_
                refine be rfl ?_
                refine k_then ?_
                refine t_condT rfl ?_
                refine t_seq ?_
                refine b0 ?_
                refine st1 nofun rfl t1_3 rfl rfl rfl .head rfl trivial rfl ?_
                refine o1 rfl (det_assign rfl) rfl rfl trivial ?_
                refine o1 rfl (det_assign rfl) rfl rfl trivial ?_
                refine be rfl ?_
                refine k_then ?_
                refine t_ret (k_thenR (?_))
                refine ret_any (vs := [_, _, _]) rfl rfl ⟨(.cell1 t1_3 rfl rfl (.head _) rfl), (.tmp rfl), (.tmp rfl), trivial⟩ rfl (fun w1 hs => ?_)
                first
                | exact ⟨by rw [show preA l hs0 o b t = (0, 0, errC l hs0 t) by unfold preA; rw [if_pos he]]; rfl, hs.keep⟩
                | exact ⟨by rw [show preA l hs0 o b t = (0, 0, 2) by unfold preA; rw [if_neg (by simp [he]), if_neg (by unfold argP; grind)]]; rfl, hs.keep⟩
                | exact ⟨by rw [show preA l hs0 o b t = (0, 0, 4) by unfold preA; rw [if_neg (by simp [he]), if_pos ha, if_neg (by unfold preB; grind)]]; rfl, hs.keep⟩
                | exact ⟨by rw [show preA l hs0 o b t = (preE l b t, preR l o b t, 0) by unfold preA; rw [if_neg (by simp [he]), if_pos ha, if_pos (by unfold preB; grind)]]; rfl, hs.keep⟩
              ·
                refine o1 rfl (det_move rfl) rfl rfl ⟨_, rfl, rfl⟩ ?_
                refine oOn (cp := [_]) (rest := _) nofun rfl hb67 rfl rfl rfl ⟨_, rfl, rfl⟩ (fun w1 hs => (pexp_on (cl := 6) hs.know hla hPa hL hH hebd h9 (by decide) (satA hs) (satN hs) (satO hs))) (fun v cp1 hv hi1 => ?_)
                obtain ⟨rfl, rfl⟩ := hv
                refine o1 rfl (det_not rfl) rfl rfl ⟨_, rfl, rfl⟩ ?_
                refine o2P not_iff_false rfl (det_move rfl) rfl rfl ⟨_, rfl, rfl⟩ (fun hb => ?_) (fun hb => ?_)
                ·
                  refine o1 rfl (det_move rfl) rfl rfl ⟨_, rfl, rfl⟩ ?_
                  refine oOn (cp := [_]) (rest := _) nofun rfl hb67 rfl rfl rfl ⟨_, rfl, rfl⟩ (fun w1 hs => (pexp_on (cl := 7) hs.know hla hPa hL hH hebd h9 (by decide) (satA hs) (satN hs) (satO hs))) (fun v cp1 hv hi1 => ?_)
                  obtain ⟨rfl, rfl⟩ := hv
                  refine o1 rfl (det_not rfl) rfl rfl ⟨_, rfl, rfl⟩ ?_
                  refine o1 rfl (det_pickT rfl rfl) rfl rfl ⟨_, rfl, rfl⟩ ?_
                  refine o1 rfl (det_pickF rfl rfl) rfl rfl trivial ?_
                  refine be rfl ?_
                  refine k_then ?_
                  refine t_condP not_iff_false rfl (fun hb => ?_) (fun hb => ?_)
                  ·
                    refine t_seq ?_
                    refine b0 ?_
                    refine st1 nofun rfl t1_3 rfl rfl rfl .head rfl trivial rfl ?_
                    refine o1 rfl (det_assign rfl) rfl rfl trivial ?_
                    refine o1 rfl (det_assign rfl) rfl rfl trivial ?_
                    refine be rfl ?_
                    refine k_then ?_
                    refine t_ret (k_thenR (?_))
                    refine ret_any (vs := [_, _, _]) rfl rfl ⟨(.cell1 t1_3 rfl rfl (.head _) rfl), (.tmp rfl), (.tmp rfl), trivial⟩ rfl (fun w1 hs => ?_)
                    first
                    | exact ⟨by rw [show preA l hs0 o b t = (0, 0, errC l hs0 t) by unfold preA; rw [if_pos he]]; rfl, hs.keep⟩
                    | exact ⟨by rw [show preA l hs0 o b t = (0, 0, 2) by unfold preA; rw [if_neg (by simp [he]), if_neg (by unfold argP; grind)]]; rfl, hs.keep⟩
                    | exact ⟨by rw [show preA l hs0 o b t = (0, 0, 4) by unfold preA; rw [if_neg (by simp [he]), if_pos ha, if_neg (by unfold preB; grind)]]; rfl, hs.keep⟩
                    | exact ⟨by rw [show preA l hs0 o b t = (preE l b t, preR l o b t, 0) by unfold preA; rw [if_neg (by simp [he]), if_pos ha, if_pos (by unfold preB; grind)]]; rfl, hs.keep⟩
                  ·
                    refine t_skip ?_
                    refine k_then ?_
                    refine t_seq ?_
                    refine b0 ?_
                    refine o1 rfl (det_load1 t1_3 rfl rfl (.head _) rfl) rfl rfl trivial ?_
                    refine o1 rfl (det_move rfl) rfl rfl trivial ?_
                    refine st1 nofun rfl t1_3 rfl rfl rfl .head rfl trivial rfl ?_
                    refine o1 rfl (det_assign rfl) rfl rfl trivial ?_
                    refine o1 rfl (det_assign rfl) rfl rfl trivial ?_
                    refine be rfl ?_
                    refine k_then ?_
                    refine t_ret ?_
                    refine ret_any (vs := [_, _, _]) rfl rfl ⟨(.cell1 t1_3 rfl rfl (.head _) rfl), (.tmp rfl), (.tmp rfl), trivial⟩ rfl (fun w1 hs => ?_)
                    first
                    | exact ⟨by rw [show preA l hs0 o b t = (0, 0, errC l hs0 t) by unfold preA; rw [if_pos he]]; rfl, hs.keep⟩
                    | exact ⟨by rw [show preA l hs0 o b t = (0, 0, 2) by unfold preA; rw [if_neg (by simp [he]), if_neg (by unfold argP; grind)]]; rfl, hs.keep⟩
                    | exact ⟨by rw [show preA l hs0 o b t = (0, 0, 4) by unfold preA; rw [if_neg (by simp [he]), if_pos ha, if_neg (by unfold preB; grind)]]; rfl, hs.keep⟩
                    | exact ⟨by rw [show preA l hs0 o b t = (preE l b t, preR l o b t, 0) by unfold preA; rw [if_neg (by simp [he]), if_pos ha, if_pos (by unfold preB; grind)]]; rfl, hs.keep⟩
                ·
                  refine on rfl rfl rfl ⟨_, rfl, .inl rfl⟩ ?_
                  refine on rfl rfl rfl ⟨_, rfl, .inl rfl⟩ ?_
                  refine on rfl rfl rfl ⟨_, rfl, .inl rfl⟩ ?_
                  refine o1 rfl (det_pickF rfl rfl) rfl rfl ⟨_, rfl, rfl⟩ ?_
                  refine o1 rfl (det_pickF rfl rfl) rfl rfl trivial ?_
                  refine be rfl ?_
                  refine k_then ?_
                  refine t_condF rfl ?_
                  refine t_skip ?_
                  refine k_then ?_
                  refine t_seq ?_
                  refine b0 ?_
                  refine o1 rfl (det_load1 t1_3 rfl rfl (.head _) rfl) rfl rfl trivial ?_
                  refine o1 rfl (det_move rfl) rfl rfl trivial ?_
                  refine st1 nofun rfl t1_3 rfl rfl rfl .head rfl trivial rfl ?_
                  refine o1 rfl (det_assign rfl) rfl rfl trivial ?_
                  refine o1 rfl (det_assign rfl) rfl rfl trivial ?_
                  refine be rfl ?_
                  refine k_then ?_
                  refine t_ret ?_
                  refine ret_any (vs := [_, _, _]) rfl rfl ⟨(.cell1 t1_3 rfl rfl (.head _) rfl), (.tmp rfl), (.tmp rfl), trivial⟩ rfl (fun w1 hs => ?_)
                  first
                  | exact ⟨by rw [show preA l hs0 o b t = (0, 0, errC l hs0 t) by unfold preA; rw [if_pos he]]; rfl, hs.keep⟩
                  | exact ⟨by rw [show preA l hs0 o b t = (0, 0, 2) by unfold preA; rw [if_neg (by simp [he]), if_neg (by unfold argP; grind)]]; rfl, hs.keep⟩
                  | exact ⟨by rw [show preA l hs0 o b t = (0, 0, 4) by unfold preA; rw [if_neg (by simp [he]), if_pos ha, if_neg (by unfold preB; grind)]]; rfl, hs.keep⟩
                  | exact ⟨by rw [show preA l hs0 o b t = (preE l b t, preR l o b t, 0) by unfold preA; rw [if_neg (by simp [he]), if_pos ha, if_pos (by unfold preB; grind)]]; rfl, hs.keep⟩

set_option maxHeartbeats 1000000
/-- Preempt. -/
theorem rpre_ok {w : World} {F : Know} (hF : ∀ a v, F a = some v → w.cell? a = some v) {l : Ln} (hl : LnK F l) {A : Option Addr} {n c : Nat} {hs0 : List Pt} (hP : PK F A n hs0) (hL : okL l = true) (hH : okH hs0 = true) {o b t : Int} (ht : 0 ≤ t ∧ t ≤ 549755813888) (ha : argP l o b t = true) : Pure Try.prog 29 [.agg (lnv l).toArray, .slice A n c, .int .i64 o, .int .i64 b, .int .i64 t] w (.tuple [.int .i64 (if preB l hs0 o b t then preE l b t else 0), .int .i64 (if preB l hs0 o b t then preR l o b t else 0), .bool (preB l hs0 o b t)].toArray) := by
  have h8 := (okH_parts hH).1
  have hLp := okL_parts hL
  have hper := hLp.2.1
  have hsh := hLp.2.2
  have hnl := hP.len
  have hab : (84 ≤ o ∧ o ≤ 1542) ∧ 0 ≤ b ∧ b ≤ t ∧ t ≤ b + o * l.per := by unfold argP at ha; simp at ha; exact ⟨⟨ha.1, ha.2.1⟩, ha.2.2⟩
  have hcd := ceil_bd (x := t - b) (o := o) (p := l.per) hper.1 (by omega) (by omega)
  have hKd : preK l b t = max 64 ((t - b + l.per - 1) / l.per) := rfl
  have hKb : 64 ≤ preK l b t ∧ preK l b t ≤ 1542 := by rw [hKd]; omega
  have hmk : 0 ≤ (preK l b t + 24) * l.per ∧ (preK l b t + 24) * l.per ≤ 1566 * 1000 := ⟨Int.mul_nonneg (by omega) (by omega), Int.mul_le_mul (by omega) hper.2 (by omega) (by decide)⟩
  have hmk2 := hmk
  rw [hKd] at hmk2
  have hebd : -4000000000000 ≤ preE l b t ∧ preE l b t ≤ 4000000000000 := by unfold preE; omega
  have hcd2 := ceil_div (x := t - b) hper.1
  have hqb : 0 ≤ (t - b) / l.per ∧ (t - b) / l.per ≤ 1542 ∧ 0 ≤ (t - b) / l.per * l.per ∧ (t - b) / l.per * l.per ≤ t - b := quo_bd hper.1 (by omega) hab.1.2 (by omega)
  have h6l : 6 < hs0.length := by omega
  have h7l : 7 < hs0.length := by omega
  obtain ⟨A, rfl⟩ := hP.some h6l
  have ha6 := atP_get h6l
  have ha7 := atP_get h7l
  have hl6 := okH_left hH (c := 6) (by decide)
  have hl7 := okH_left hH (c := 7) (by decide)
  rw [show (6 : Int).toNat = 6 from rfl, ha6] at hl6
  rw [show (7 : Int).toNat = 7 from rfl, ha7] at hl7
  have hm6 := may_top (l := l) (t := preE l b t) h6l (c := 6) rfl (by decide)
  have hm7 := may_top (l := l) (t := preE l b t) h7l (c := 7) rfl (by decide)
  refine fn_pure (F := F) Try.func29 rfl Try.ntmps29 rfl hF ?_
  refine t_seq ?_
  refine b0 ?_
  refine om1 rfl (new_boxN rfl) rfl rfl trivial (fun p5 => ?_)
  refine o1 rfl (det_assign rfl) rfl rfl trivial ?_
  refine o1 rfl (det_assign rfl) rfl rfl trivial ?_
  refine o1 rfl (det_assign rfl) rfl rfl trivial ?_
  refine be rfl ?_
  refine k_then ?_
  refine t_seq ?_
  refine b0 ?_
  refine o1 rfl (det_move rfl) rfl rfl trivial ?_
  refine o1 rfl (det_move rfl) rfl rfl trivial ?_
  first | (refine o1 rfl (det_subI rfl rfl ?_) rfl rfl trivial ?_; (· omega)) | refine o1 rfl (det_sub rfl rfl) rfl rfl trivial ?_
  refine o1 rfl (det_fieldAddr fld26_1 rfl) rfl rfl trivial ?_
  refine o1 rfl (det_load1 t1_3 rfl rfl (.head _) rfl) rfl rfl trivial ?_
  first | (refine o1 rfl (det_quoP rfl rfl ?_ ?_) rfl rfl trivial ?_; (· omega); (· omega)) | (refine o1 rfl (det_quoI rfl rfl ?_ ?_) rfl rfl trivial ?_; (· (first | decide | omega)); (· omega)) | (refine o1 rfl (det_quo rfl rfl ?_) rfl rfl trivial ?_; (· (first | decide | omega)))
  refine o1 rfl (det_assign rfl) rfl rfl trivial ?_
  refine be rfl ?_
  refine k_then ?_
  refine t_seq ?_
  refine t_seq ?_
  refine b0 ?_
  refine o1 rfl (det_move rfl) rfl rfl trivial ?_
  refine o1 rfl (det_fieldAddr fld26_1 rfl) rfl rfl trivial ?_
  refine o1 rfl (det_load1 t1_3 rfl rfl (.head _) rfl) rfl rfl trivial ?_
  first | (refine o1 rfl (det_mulI rfl rfl ?_) rfl rfl trivial ?_; (· omega)) | refine o1 rfl (det_mul rfl rfl) rfl rfl trivial ?_
  refine o1 rfl (det_move rfl) rfl rfl trivial ?_
  refine o1 rfl (det_move rfl) rfl rfl trivial ?_
  first | (refine o1 rfl (det_subI rfl rfl ?_) rfl rfl trivial ?_; (· omega)) | refine o1 rfl (det_sub rfl rfl) rfl rfl trivial ?_
  refine o1 rfl (det_lss rfl rfl) rfl rfl trivial ?_
  refine be rfl ?_
  refine k_then ?_
  refine t_condP decide_eq_true_iff rfl (fun hb => ?_) (fun hb => ?_)
  ·
    have hcv := hcd2.1 hb
    --note:up
    refine b0 ?_
    refine o1 rfl (det_move rfl) rfl rfl trivial ?_
    first | (refine o1 rfl (det_addI rfl rfl ?_) rfl rfl trivial ?_; (· omega)) | refine o1 rfl (det_add rfl rfl) rfl rfl trivial ?_
    refine o1 rfl (det_assign rfl) rfl rfl trivial ?_
    refine be rfl ?_
    refine k_then ?_
    refine t_seq ?_
    refine t_seq ?_
    refine b0 ?_
    refine o1 rfl (det_move rfl) rfl rfl trivial ?_
    refine o1 rfl (det_lss rfl rfl) rfl rfl trivial ?_
    refine be rfl ?_
    refine k_then ?_
    refine t_condP decide_eq_true_iff rfl (fun hb => ?_) (fun hb => ?_)
    ·
      have hKK : preK l b t = 64 := by rw [hKd]; omega
      have hEE : preE l b t = b + (64 + 24) * l.per := by unfold preE; rw [hKK]
      rw [hEE] at hebd hm6 hm7
      rw [hKK] at hmk
      refine b0 ?_
      refine o1 rfl (det_assign rfl) rfl rfl trivial ?_
      refine be rfl ?_
      refine k_then ?_
      refine t_seq ?_
      refine b0 ?_
      refine o1 rfl (det_move rfl) rfl rfl trivial ?_
      refine o1 rfl (det_move rfl) rfl rfl trivial ?_
      first | (refine o1 rfl (det_addI rfl rfl ?_) rfl rfl trivial ?_; (· omega)) | refine o1 rfl (det_add rfl rfl) rfl rfl trivial ?_
      refine o1 rfl (det_fieldAddr fld26_1 rfl) rfl rfl trivial ?_
      refine o1 rfl (det_load1 t1_3 rfl rfl (.head _) rfl) rfl rfl trivial ?_
      first | (refine o1 rfl (det_mulI rfl rfl ?_) rfl rfl trivial ?_; (· omega)) | refine o1 rfl (det_mul rfl rfl) rfl rfl trivial ?_
      first | (refine o1 rfl (det_addI rfl rfl ?_) rfl rfl trivial ?_; (· omega)) | refine o1 rfl (det_add rfl rfl) rfl rfl trivial ?_
      refine o1 rfl (det_assign rfl) rfl rfl trivial ?_
      refine be rfl ?_
      refine k_then ?_
      refine t_seq ?_
      refine bD mixed ?_
      refine r_seg 14 14 [] [0, 1, 2, 3, 4, 5, 6, 7, 8, 9, 10, 11, 12, 13] (by kernel_rfl) ?_
      refine s1 rfl (det_move rfl) rfl rfl trivial rfl ?_
      first | (refine s1 rfl (det_indexAddr sl27 rfl rfl ?_) rfl rfl trivial rfl ?_; (· (first | decide | omega)))
      refine s1 rfl (det_loadKN tN57 rfl (ptv_len hs0[6]) (hP.cells (i := 6) (k := 6) rfl h6l (ptv_len _))) rfl rfl trivial rfl ?_
      refine s1 rfl (det_call hb54 rfl rfl (fun w1 hs => none_ok hs.know)) rfl rfl trivial rfl ?_
      refine s1 rfl (det_not rfl) rfl rfl trivial rfl ?_
      refine s2P not_iff_false rfl (det_move rfl) rfl rfl trivial rfl (fun hb => ?_) (fun hb => ?_)
      ·
        refine s1 rfl (det_loadN tN26 rfl rfl (.head _) rfl) rfl rfl ⟨_, rfl, rfl⟩ rfl ?_
        refine s1 rfl (det_move rfl) rfl rfl ⟨_, rfl, rfl⟩ rfl ?_
        first | (refine s1 rfl (det_indexAddr sl27 rfl rfl ?_) rfl rfl ⟨_, rfl, rfl⟩ rfl ?_; (· (first | decide | omega)))
        refine s1 rfl (det_loadKN tN57 rfl (ptv_len hs0[6]) (hP.cells (i := 6) (k := 6) rfl h6l (ptv_len _))) rfl rfl ⟨_, rfl, rfl⟩ rfl ?_
        refine s1 rfl (det_move rfl) rfl rfl ⟨_, rfl, rfl⟩ rfl ?_
        refine s1 rfl (det_call hb61 rfl rfl (fun w1 hs => rfits_ok hs.know hl (by decide) hper hsh hl6 hebd)) rfl rfl ⟨_, rfl, rfl⟩ rfl ?_
        refine s1 rfl (det_pickT rfl rfl) rfl rfl trivial rfl ?_
        refine s1 rfl (det_assign rfl) rfl rfl trivial rfl ?_
        refine sg_nil ?_
        refine be rfl ?_
        refine k_then ?_
        refine t_seq ?_
        refine bD mixed ?_
        refine r_seg 14 14 [] [0, 1, 2, 3, 4, 5, 6, 7, 8, 9, 10, 11, 12, 13] (by kernel_rfl) ?_
        refine s1 rfl (det_move rfl) rfl rfl trivial rfl ?_
        first | (refine s1 rfl (det_indexAddr sl27 rfl rfl ?_) rfl rfl trivial rfl ?_; (· (first | decide | omega)))
        refine s1 rfl (det_loadKN tN57 rfl (ptv_len hs0[7]) (hP.cells (i := 7) (k := 7) rfl h7l (ptv_len _))) rfl rfl trivial rfl ?_
        refine s1 rfl (det_call hb54 rfl rfl (fun w1 hs => none_ok hs.know)) rfl rfl trivial rfl ?_
        refine s1 rfl (det_not rfl) rfl rfl trivial rfl ?_
        refine s2P not_iff_false rfl (det_move rfl) rfl rfl trivial rfl (fun hb => ?_) (fun hb => ?_)
        ·
          refine s1 rfl (det_loadN tN26 rfl rfl (.head _) rfl) rfl rfl ⟨_, rfl, rfl⟩ rfl ?_
          refine s1 rfl (det_move rfl) rfl rfl ⟨_, rfl, rfl⟩ rfl ?_
          first | (refine s1 rfl (det_indexAddr sl27 rfl rfl ?_) rfl rfl ⟨_, rfl, rfl⟩ rfl ?_; (· (first | decide | omega)))
          refine s1 rfl (det_loadKN tN57 rfl (ptv_len hs0[7]) (hP.cells (i := 7) (k := 7) rfl h7l (ptv_len _))) rfl rfl ⟨_, rfl, rfl⟩ rfl ?_
          refine s1 rfl (det_move rfl) rfl rfl ⟨_, rfl, rfl⟩ rfl ?_
          refine s1 rfl (det_call hb61 rfl rfl (fun w1 hs => rfits_ok hs.know hl (by decide) hper hsh hl7 hebd)) rfl rfl ⟨_, rfl, rfl⟩ rfl ?_
          refine s1 rfl (det_pickT rfl rfl) rfl rfl trivial rfl ?_
          refine s1 rfl (det_assign rfl) rfl rfl trivial rfl ?_
          refine sg_nil ?_
          refine be rfl ?_
          refine k_then ?_
          refine t_seq ?_
          refine t_seq ?_
          refine b0 ?_
          refine o1 rfl (det_move rfl) rfl rfl trivial ?_
          refine o1 rfl (det_move rfl) rfl rfl trivial ?_
          first | (refine o1 rfl (det_subI rfl rfl ?_) rfl rfl trivial ?_; (· omega)) | refine o1 rfl (det_sub rfl rfl) rfl rfl trivial ?_
          refine o1 rfl (det_lss rfl rfl) rfl rfl trivial ?_
          refine o2P decide_eq_true_iff rfl (det_move rfl) rfl rfl trivial (fun hb => ?_) (fun hb => ?_)
          ·
            refine on rfl rfl rfl ⟨_, rfl, .inl rfl⟩ ?_
            refine on rfl rfl rfl ⟨_, rfl, .inl rfl⟩ ?_
            refine on rfl rfl rfl ⟨_, rfl, .inl rfl⟩ ?_
            refine on rfl rfl rfl ⟨_, rfl, .inr rfl⟩ ?_
            refine on rfl rfl rfl ⟨_, rfl, .inr rfl⟩ ?_
            refine on rfl rfl rfl ⟨_, rfl, .inl rfl⟩ ?_
            refine o1 rfl (det_pickT rfl rfl) rfl rfl trivial ?_
            refine be rfl ?_
            refine k_then ?_
            refine t_condT rfl ?_
            refine t_seq ?_
            refine b0 ?_
            refine o1 rfl (det_assign rfl) rfl rfl trivial ?_
            refine o1 rfl (det_assign rfl) rfl rfl trivial ?_
            refine o1 rfl (det_assign rfl) rfl rfl trivial ?_
            refine be rfl ?_
            refine k_then ?_
            refine t_ret (k_thenR (?_))
            refine ret_tmp3 rfl rfl rfl rfl rfl (fun w1 hs => ?_)
            rw [hEE]
            unfold preR
            rw [hKK]
            first
            | exact ⟨by rw [show preB l hs0 o b t = true by unfold preB; rw [hEE, hKK, hm6, hm7]; grind]; rfl, hs.keep⟩
            | exact ⟨by rw [show preB l hs0 o b t = false by unfold preB; rw [hEE, hKK, hm6, hm7]; grind]; rfl, hs.keep⟩
          ·
            refine o1 rfl (det_move rfl) rfl rfl ⟨_, rfl, rfl⟩ ?_
            refine o1 rfl (det_not rfl) rfl rfl ⟨_, rfl, rfl⟩ ?_
            refine o2P not_iff_false rfl (det_move rfl) rfl rfl ⟨_, rfl, rfl⟩ (fun hb => ?_) (fun hb => ?_)
            ·
              refine o1 rfl (det_move rfl) rfl rfl ⟨_, rfl, rfl⟩ ?_
              refine o1 rfl (det_not rfl) rfl rfl ⟨_, rfl, rfl⟩ ?_
              refine o1 rfl (det_pickT rfl rfl) rfl rfl ⟨_, rfl, rfl⟩ ?_
              refine o1 rfl (det_pickF rfl rfl) rfl rfl trivial ?_
              refine be rfl ?_
              refine k_then ?_
              refine t_condP not_iff_false rfl (fun hb => ?_) (fun hb => ?_)
              ·
                refine t_seq ?_
                refine b0 ?_
                refine o1 rfl (det_assign rfl) rfl rfl trivial ?_
                refine o1 rfl (det_assign rfl) rfl rfl trivial ?_
                refine o1 rfl (det_assign rfl) rfl rfl trivial ?_
                refine be rfl ?_
                refine k_then ?_
                refine t_ret (k_thenR (?_))
                refine ret_tmp3 rfl rfl rfl rfl rfl (fun w1 hs => ?_)
                rw [hEE]
                unfold preR
                rw [hKK]
                first
                | exact ⟨by rw [show preB l hs0 o b t = true by unfold preB; rw [hEE, hKK, hm6, hm7]; grind]; rfl, hs.keep⟩
                | exact ⟨by rw [show preB l hs0 o b t = false by unfold preB; rw [hEE, hKK, hm6, hm7]; grind]; rfl, hs.keep⟩
              ·
                refine t_skip ?_
                refine k_then ?_
                refine t_seq ?_
                refine b0 ?_
                refine o1 rfl (det_move rfl) rfl rfl trivial ?_
                refine o1 rfl (det_move rfl) rfl rfl trivial ?_
                refine o1 rfl (det_move rfl) rfl rfl trivial ?_
                first | (refine o1 rfl (det_subI rfl rfl ?_) rfl rfl trivial ?_; (· omega)) | refine o1 rfl (det_sub rfl rfl) rfl rfl trivial ?_
                first | (refine o1 rfl (det_addI rfl rfl ?_) rfl rfl trivial ?_; (· omega)) | refine o1 rfl (det_add rfl rfl) rfl rfl trivial ?_
                refine o1 rfl (det_assign rfl) rfl rfl trivial ?_
                refine o1 rfl (det_assign rfl) rfl rfl trivial ?_
                refine o1 rfl (det_assign rfl) rfl rfl trivial ?_
                refine be rfl ?_
                refine k_then ?_
                refine t_ret ?_
                refine ret_tmp3 rfl rfl rfl rfl rfl (fun w1 hs => ?_)
                rw [hEE]
                unfold preR
                rw [hKK]
                first
                | exact ⟨by rw [show preB l hs0 o b t = true by unfold preB; rw [hEE, hKK, hm6, hm7]; grind]; rfl, hs.keep⟩
                | exact ⟨by rw [show preB l hs0 o b t = false by unfold preB; rw [hEE, hKK, hm6, hm7]; grind]; rfl, hs.keep⟩
            ·
              refine on rfl rfl rfl ⟨_, rfl, .inl rfl⟩ ?_
              refine on rfl rfl rfl ⟨_, rfl, .inl rfl⟩ ?_
              refine o1 rfl (det_pickF rfl rfl) rfl rfl ⟨_, rfl, rfl⟩ ?_
              refine o1 rfl (det_pickF rfl rfl) rfl rfl trivial ?_
              refine be rfl ?_
              refine k_then ?_
              refine t_condF rfl ?_
              refine t_skip ?_
              refine k_then ?_
              refine t_seq ?_
              refine b0 ?_
              refine o1 rfl (det_move rfl) rfl rfl trivial ?_
              refine o1 rfl (det_move rfl) rfl rfl trivial ?_
              refine o1 rfl (det_move rfl) rfl rfl trivial ?_
              first | (refine o1 rfl (det_subI rfl rfl ?_) rfl rfl trivial ?_; (· omega)) | refine o1 rfl (det_sub rfl rfl) rfl rfl trivial ?_
              first | (refine o1 rfl (det_addI rfl rfl ?_) rfl rfl trivial ?_; (· omega)) | refine o1 rfl (det_add rfl rfl) rfl rfl trivial ?_
              refine o1 rfl (det_assign rfl) rfl rfl trivial ?_
              refine o1 rfl (det_assign rfl) rfl rfl trivial ?_
              refine o1 rfl (det_assign rfl) rfl rfl trivial ?_
              refine be rfl ?_
              refine k_then ?_
              refine t_ret ?_
              refine ret_tmp3 rfl rfl rfl rfl rfl (fun w1 hs => ?_)
              rw [hEE]
              unfold preR
              rw [hKK]
              first
              | exact ⟨by rw [show preB l hs0 o b t = true by unfold preB; rw [hEE, hKK, hm6, hm7]; grind]; rfl, hs.keep⟩
              | exact ⟨by rw [show preB l hs0 o b t = false by unfold preB; rw [hEE, hKK, hm6, hm7]; grind]; rfl, hs.keep⟩
        ·
          refine sn rfl rfl rfl ⟨_, rfl, .inl rfl⟩ ?_
          refine sn rfl rfl rfl ⟨_, rfl, .inl rfl⟩ ?_
          refine sn rfl rfl rfl ⟨_, rfl, .inl rfl⟩ ?_
          refine sn rfl rfl rfl ⟨_, rfl, .inl rfl⟩ ?_
          refine sn rfl rfl rfl ⟨_, rfl, .inl rfl⟩ ?_
          refine sn rfl rfl rfl ⟨_, rfl, .inl rfl⟩ ?_
          refine s1 rfl (det_pickF rfl rfl) rfl rfl trivial rfl ?_
          refine s1 rfl (det_assign rfl) rfl rfl trivial rfl ?_
          refine sg_nil ?_
          refine be rfl ?_
          refine k_then ?_
          refine t_seq ?_
          refine t_seq ?_
          refine b0 ?_
          refine o1 rfl (det_move rfl) rfl rfl trivial ?_
          refine o1 rfl (det_move rfl) rfl rfl trivial ?_
          first | (refine o1 rfl (det_subI rfl rfl ?_) rfl rfl trivial ?_; (· omega)) | refine o1 rfl (det_sub rfl rfl) rfl rfl trivial ?_
          refine o1 rfl (det_lss rfl rfl) rfl rfl trivial ?_
          refine o2P decide_eq_true_iff rfl (det_move rfl) rfl rfl trivial (fun hb => ?_) (fun hb => ?_)
          ·
            refine on rfl rfl rfl ⟨_, rfl, .inl rfl⟩ ?_
            refine on rfl rfl rfl ⟨_, rfl, .inl rfl⟩ ?_
            refine on rfl rfl rfl ⟨_, rfl, .inl rfl⟩ ?_
            refine on rfl rfl rfl ⟨_, rfl, .inr rfl⟩ ?_
            refine on rfl rfl rfl ⟨_, rfl, .inr rfl⟩ ?_
            refine on rfl rfl rfl ⟨_, rfl, .inl rfl⟩ ?_
            refine o1 rfl (det_pickT rfl rfl) rfl rfl trivial ?_
            refine be rfl ?_
            refine k_then ?_
            refine t_condT rfl ?_
            refine t_seq ?_
            refine b0 ?_
            refine o1 rfl (det_assign rfl) rfl rfl trivial ?_
            refine o1 rfl (det_assign rfl) rfl rfl trivial ?_
            refine o1 rfl (det_assign rfl) rfl rfl trivial ?_
            refine be rfl ?_
            refine k_then ?_
            refine t_ret (k_thenR (?_))
            refine ret_tmp3 rfl rfl rfl rfl rfl (fun w1 hs => ?_)
            rw [hEE]
            unfold preR
            rw [hKK]
            first
            | exact ⟨by rw [show preB l hs0 o b t = true by unfold preB; rw [hEE, hKK, hm6, hm7]; grind]; rfl, hs.keep⟩
            | exact ⟨by rw [show preB l hs0 o b t = false by unfold preB; rw [hEE, hKK, hm6, hm7]; grind]; rfl, hs.keep⟩
          ·
            refine o1 rfl (det_move rfl) rfl rfl ⟨_, rfl, rfl⟩ ?_
            refine o1 rfl (det_not rfl) rfl rfl ⟨_, rfl, rfl⟩ ?_
            refine o2P not_iff_false rfl (det_move rfl) rfl rfl ⟨_, rfl, rfl⟩ (fun hb => ?_) (fun hb => ?_)
            ·
              refine o1 rfl (det_move rfl) rfl rfl ⟨_, rfl, rfl⟩ ?_
              refine o1 rfl (det_not rfl) rfl rfl ⟨_, rfl, rfl⟩ ?_
              refine o1 rfl (det_pickT rfl rfl) rfl rfl ⟨_, rfl, rfl⟩ ?_
              refine o1 rfl (det_pickF rfl rfl) rfl rfl trivial ?_
              refine be rfl ?_
              refine k_then ?_
              refine t_condT rfl ?_
              refine t_seq ?_
              refine b0 ?_
              refine o1 rfl (det_assign rfl) rfl rfl trivial ?_
              refine o1 rfl (det_assign rfl) rfl rfl trivial ?_
              refine o1 rfl (det_assign rfl) rfl rfl trivial ?_
              refine be rfl ?_
              refine k_then ?_
              refine t_ret (k_thenR (?_))
              refine ret_tmp3 rfl rfl rfl rfl rfl (fun w1 hs => ?_)
              rw [hEE]
              unfold preR
              rw [hKK]
              first
              | exact ⟨by rw [show preB l hs0 o b t = true by unfold preB; rw [hEE, hKK, hm6, hm7]; grind]; rfl, hs.keep⟩
              | exact ⟨by rw [show preB l hs0 o b t = false by unfold preB; rw [hEE, hKK, hm6, hm7]; grind]; rfl, hs.keep⟩
            ·
              refine on rfl rfl rfl ⟨_, rfl, .inl rfl⟩ ?_
              refine on rfl rfl rfl ⟨_, rfl, .inl rfl⟩ ?_
              refine o1 rfl (det_pickF rfl rfl) rfl rfl ⟨_, rfl, rfl⟩ ?_
              refine o1 rfl (det_pickF rfl rfl) rfl rfl trivial ?_
              refine be rfl ?_
              refine k_then ?_
              refine t_condF rfl ?_
              refine t_skip ?_
              refine k_then ?_
              refine t_seq ?_
              refine b0 ?_
              refine o1 rfl (det_move rfl) rfl rfl trivial ?_
              refine o1 rfl (det_move rfl) rfl rfl trivial ?_
              refine o1 rfl (det_move rfl) rfl rfl trivial ?_
              first | (refine o1 rfl (det_subI rfl rfl ?_) rfl rfl trivial ?_; (· omega)) | refine o1 rfl (det_sub rfl rfl) rfl rfl trivial ?_
              first | (refine o1 rfl (det_addI rfl rfl ?_) rfl rfl trivial ?_; (· omega)) | refine o1 rfl (det_add rfl rfl) rfl rfl trivial ?_
              refine o1 rfl (det_assign rfl) rfl rfl trivial ?_
              refine o1 rfl (det_assign rfl) rfl rfl trivial ?_
              refine o1 rfl (det_assign rfl) rfl rfl trivial ?_
              refine be rfl ?_
              refine k_then ?_
              refine t_ret ?_
              refine ret_tmp3 rfl rfl rfl rfl rfl (fun w1 hs => ?_)
              rw [hEE]
              unfold preR
              rw [hKK]
              first
              | exact ⟨by rw [show preB l hs0 o b t = true by unfold preB; rw [hEE, hKK, hm6, hm7]; grind]; rfl, hs.keep⟩
              | exact ⟨by rw [show preB l hs0 o b t = false by unfold preB; rw [hEE, hKK, hm6, hm7]; grind]; rfl, hs.keep⟩
      ·
        refine sn rfl rfl rfl ⟨_, rfl, .inl rfl⟩ ?_
        refine sn rfl rfl rfl ⟨_, rfl, .inl rfl⟩ ?_
        refine sn rfl rfl rfl ⟨_, rfl, .inl rfl⟩ ?_
        refine sn rfl rfl rfl ⟨_, rfl, .inl rfl⟩ ?_
        refine sn rfl rfl rfl ⟨_, rfl, .inl rfl⟩ ?_
        refine sn rfl rfl rfl ⟨_, rfl, .inl rfl⟩ ?_
        refine s1 rfl (det_pickF rfl rfl) rfl rfl trivial rfl ?_
        refine s1 rfl (det_assign rfl) rfl rfl trivial rfl ?_
        refine sg_nil ?_
        refine be rfl ?_
        refine k_then ?_
        refine t_seq ?_
        refine bD mixed ?_
        refine r_seg 14 14 [] [0, 1, 2, 3, 4, 5, 6, 7, 8, 9, 10, 11, 12, 13] (by kernel_rfl) ?_
        refine s1 rfl (det_move rfl) rfl rfl trivial rfl ?_
        first | (refine s1 rfl (det_indexAddr sl27 rfl rfl ?_) rfl rfl trivial rfl ?_; (· (first | decide | omega)))
        refine s1 rfl (det_loadKN tN57 rfl (ptv_len hs0[7]) (hP.cells (i := 7) (k := 7) rfl h7l (ptv_len _))) rfl rfl trivial rfl ?_
        refine s1 rfl (det_call hb54 rfl rfl (fun w1 hs => none_ok hs.know)) rfl rfl trivial rfl ?_
        refine s1 rfl (det_not rfl) rfl rfl trivial rfl ?_
        refine s2P not_iff_false rfl (det_move rfl) rfl rfl trivial rfl (fun hb => ?_) (fun hb => ?_)
        ·
          refine s1 rfl (det_loadN tN26 rfl rfl (.head _) rfl) rfl rfl ⟨_, rfl, rfl⟩ rfl ?_
          refine s1 rfl (det_move rfl) rfl rfl ⟨_, rfl, rfl⟩ rfl ?_
          first | (refine s1 rfl (det_indexAddr sl27 rfl rfl ?_) rfl rfl ⟨_, rfl, rfl⟩ rfl ?_; (· (first | decide | omega)))
          refine s1 rfl (det_loadKN tN57 rfl (ptv_len hs0[7]) (hP.cells (i := 7) (k := 7) rfl h7l (ptv_len _))) rfl rfl ⟨_, rfl, rfl⟩ rfl ?_
          refine s1 rfl (det_move rfl) rfl rfl ⟨_, rfl, rfl⟩ rfl ?_
          refine s1 rfl (det_call hb61 rfl rfl (fun w1 hs => rfits_ok hs.know hl (by decide) hper hsh hl7 hebd)) rfl rfl ⟨_, rfl, rfl⟩ rfl ?_
          refine s1 rfl (det_pickT rfl rfl) rfl rfl trivial rfl ?_
          refine s1 rfl (det_assign rfl) rfl rfl trivial rfl ?_
          refine sg_nil ?_
          refine be rfl ?_
          refine k_then ?_
          refine t_seq ?_
          refine t_seq ?_
          refine b0 ?_
          refine o1 rfl (det_move rfl) rfl rfl trivial ?_
          refine o1 rfl (det_move rfl) rfl rfl trivial ?_
          first | (refine o1 rfl (det_subI rfl rfl ?_) rfl rfl trivial ?_; (· omega)) | refine o1 rfl (det_sub rfl rfl) rfl rfl trivial ?_
          refine o1 rfl (det_lss rfl rfl) rfl rfl trivial ?_
          refine o2P decide_eq_true_iff rfl (det_move rfl) rfl rfl trivial (fun hb => ?_) (fun hb => ?_)
          ·
            refine on rfl rfl rfl ⟨_, rfl, .inl rfl⟩ ?_
            refine on rfl rfl rfl ⟨_, rfl, .inl rfl⟩ ?_
            refine on rfl rfl rfl ⟨_, rfl, .inl rfl⟩ ?_
            refine on rfl rfl rfl ⟨_, rfl, .inr rfl⟩ ?_
            refine on rfl rfl rfl ⟨_, rfl, .inr rfl⟩ ?_
            refine on rfl rfl rfl ⟨_, rfl, .inl rfl⟩ ?_
            refine o1 rfl (det_pickT rfl rfl) rfl rfl trivial ?_
            refine be rfl ?_
            refine k_then ?_
            refine t_condT rfl ?_
            refine t_seq ?_
            refine b0 ?_
            refine o1 rfl (det_assign rfl) rfl rfl trivial ?_
            refine o1 rfl (det_assign rfl) rfl rfl trivial ?_
            refine o1 rfl (det_assign rfl) rfl rfl trivial ?_
            refine be rfl ?_
            refine k_then ?_
            refine t_ret (k_thenR (?_))
            refine ret_tmp3 rfl rfl rfl rfl rfl (fun w1 hs => ?_)
            rw [hEE]
            unfold preR
            rw [hKK]
            first
            | exact ⟨by rw [show preB l hs0 o b t = true by unfold preB; rw [hEE, hKK, hm6, hm7]; grind]; rfl, hs.keep⟩
            | exact ⟨by rw [show preB l hs0 o b t = false by unfold preB; rw [hEE, hKK, hm6, hm7]; grind]; rfl, hs.keep⟩
          ·
            refine o1 rfl (det_move rfl) rfl rfl ⟨_, rfl, rfl⟩ ?_
            refine o1 rfl (det_not rfl) rfl rfl ⟨_, rfl, rfl⟩ ?_
            refine o1 rfl (det_move rfl) rfl rfl ⟨_, rfl, rfl⟩ ?_
            refine o1 rfl (det_move rfl) rfl rfl ⟨_, rfl, rfl⟩ ?_
            refine o1 rfl (det_not rfl) rfl rfl ⟨_, rfl, rfl⟩ ?_
            refine o1 rfl (det_pickT rfl rfl) rfl rfl ⟨_, rfl, rfl⟩ ?_
            refine o1 rfl (det_pickF rfl rfl) rfl rfl trivial ?_
            refine be rfl ?_
            refine k_then ?_
            refine t_condP not_iff_false rfl (fun hb => ?_) (fun hb => ?_)
            ·
              refine t_seq ?_
              refine b0 ?_
              refine o1 rfl (det_assign rfl) rfl rfl trivial ?_
              refine o1 rfl (det_assign rfl) rfl rfl trivial ?_
              refine o1 rfl (det_assign rfl) rfl rfl trivial ?_
              refine be rfl ?_
              refine k_then ?_
              refine t_ret (k_thenR (?_))
              refine ret_tmp3 rfl rfl rfl rfl rfl (fun w1 hs => ?_)
              rw [hEE]
              unfold preR
              rw [hKK]
              first
              | exact ⟨by rw [show preB l hs0 o b t = true by unfold preB; rw [hEE, hKK, hm6, hm7]; grind]; rfl, hs.keep⟩
              | exact ⟨by rw [show preB l hs0 o b t = false by unfold preB; rw [hEE, hKK, hm6, hm7]; grind]; rfl, hs.keep⟩
            ·
              refine t_skip ?_
              refine k_then ?_
              refine t_seq ?_
              refine b0 ?_
              refine o1 rfl (det_move rfl) rfl rfl trivial ?_
              refine o1 rfl (det_move rfl) rfl rfl trivial ?_
              refine o1 rfl (det_move rfl) rfl rfl trivial ?_
              first | (refine o1 rfl (det_subI rfl rfl ?_) rfl rfl trivial ?_; (· omega)) | refine o1 rfl (det_sub rfl rfl) rfl rfl trivial ?_
              first | (refine o1 rfl (det_addI rfl rfl ?_) rfl rfl trivial ?_; (· omega)) | refine o1 rfl (det_add rfl rfl) rfl rfl trivial ?_
              refine o1 rfl (det_assign rfl) rfl rfl trivial ?_
              refine o1 rfl (det_assign rfl) rfl rfl trivial ?_
              refine o1 rfl (det_assign rfl) rfl rfl trivial ?_
              refine be rfl ?_
              refine k_then ?_
              refine t_ret ?_
              refine ret_tmp3 rfl rfl rfl rfl rfl (fun w1 hs => ?_)
              rw [hEE]
              unfold preR
              rw [hKK]
              first
              | exact ⟨by rw [show preB l hs0 o b t = true by unfold preB; rw [hEE, hKK, hm6, hm7]; grind]; rfl, hs.keep⟩
              | exact ⟨by rw [show preB l hs0 o b t = false by unfold preB; rw [hEE, hKK, hm6, hm7]; grind]; rfl, hs.keep⟩
        ·
          refine sn rfl rfl rfl ⟨_, rfl, .inl rfl⟩ ?_
          refine sn rfl rfl rfl ⟨_, rfl, .inl rfl⟩ ?_
          refine sn rfl rfl rfl ⟨_, rfl, .inl rfl⟩ ?_
          refine sn rfl rfl rfl ⟨_, rfl, .inl rfl⟩ ?_
          refine sn rfl rfl rfl ⟨_, rfl, .inl rfl⟩ ?_
          refine sn rfl rfl rfl ⟨_, rfl, .inl rfl⟩ ?_
          refine s1 rfl (det_pickF rfl rfl) rfl rfl trivial rfl ?_
          refine s1 rfl (det_assign rfl) rfl rfl trivial rfl ?_
          refine sg_nil ?_
          refine be rfl ?_
          refine k_then ?_
          refine t_seq ?_
          refine t_seq ?_
          refine b0 ?_
          refine o1 rfl (det_move rfl) rfl rfl trivial ?_
          refine o1 rfl (det_move rfl) rfl rfl trivial ?_
          first | (refine o1 rfl (det_subI rfl rfl ?_) rfl rfl trivial ?_; (· omega)) | refine o1 rfl (det_sub rfl rfl) rfl rfl trivial ?_
          refine o1 rfl (det_lss rfl rfl) rfl rfl trivial ?_
          refine o2P decide_eq_true_iff rfl (det_move rfl) rfl rfl trivial (fun hb => ?_) (fun hb => ?_)
          ·
            refine on rfl rfl rfl ⟨_, rfl, .inl rfl⟩ ?_
            refine on rfl rfl rfl ⟨_, rfl, .inl rfl⟩ ?_
            refine on rfl rfl rfl ⟨_, rfl, .inl rfl⟩ ?_
            refine on rfl rfl rfl ⟨_, rfl, .inr rfl⟩ ?_
            refine on rfl rfl rfl ⟨_, rfl, .inr rfl⟩ ?_
            refine on rfl rfl rfl ⟨_, rfl, .inl rfl⟩ ?_
            refine o1 rfl (det_pickT rfl rfl) rfl rfl trivial ?_
            refine be rfl ?_
            refine k_then ?_
            refine t_condT rfl ?_
            refine t_seq ?_
            refine b0 ?_
            refine o1 rfl (det_assign rfl) rfl rfl trivial ?_
            refine o1 rfl (det_assign rfl) rfl rfl trivial ?_
            refine o1 rfl (det_assign rfl) rfl rfl trivial ?_
            refine be rfl ?_
            refine k_then ?_
            refine t_ret (k_thenR (?_))
            refine ret_tmp3 rfl rfl rfl rfl rfl (fun w1 hs => ?_)
            rw [hEE]
            unfold preR
            rw [hKK]
            first
            | exact ⟨by rw [show preB l hs0 o b t = true by unfold preB; rw [hEE, hKK, hm6, hm7]; grind]; rfl, hs.keep⟩
            | exact ⟨by rw [show preB l hs0 o b t = false by unfold preB; rw [hEE, hKK, hm6, hm7]; grind]; rfl, hs.keep⟩
          ·
            refine o1 rfl (det_move rfl) rfl rfl ⟨_, rfl, rfl⟩ ?_
            refine o1 rfl (det_not rfl) rfl rfl ⟨_, rfl, rfl⟩ ?_
            refine o1 rfl (det_move rfl) rfl rfl ⟨_, rfl, rfl⟩ ?_
            refine o1 rfl (det_move rfl) rfl rfl ⟨_, rfl, rfl⟩ ?_
            refine o1 rfl (det_not rfl) rfl rfl ⟨_, rfl, rfl⟩ ?_
            refine o1 rfl (det_pickT rfl rfl) rfl rfl ⟨_, rfl, rfl⟩ ?_
            refine o1 rfl (det_pickF rfl rfl) rfl rfl trivial ?_
            refine be rfl ?_
            refine k_then ?_
            refine t_condT rfl ?_
            refine t_seq ?_
            refine b0 ?_
            refine o1 rfl (det_assign rfl) rfl rfl trivial ?_
            refine o1 rfl (det_assign rfl) rfl rfl trivial ?_
            refine o1 rfl (det_assign rfl) rfl rfl trivial ?_
            refine be rfl ?_
            refine k_then ?_
            refine t_ret (k_thenR (?_))
            refine ret_tmp3 rfl rfl rfl rfl rfl (fun w1 hs => ?_)
            rw [hEE]
            unfold preR
            rw [hKK]
            first
            | exact ⟨by rw [show preB l hs0 o b t = true by unfold preB; rw [hEE, hKK, hm6, hm7]; grind]; rfl, hs.keep⟩
            | exact ⟨by rw [show preB l hs0 o b t = false by unfold preB; rw [hEE, hKK, hm6, hm7]; grind]; rfl, hs.keep⟩
    ·
      have hKK : preK l b t = ((t - b) / l.per + 1) := by rw [hKd]; omega
      have hEE : preE l b t = b + (((t - b) / l.per + 1) + 24) * l.per := by unfold preE; rw [hKK]
      rw [hEE] at hebd hm6 hm7
      rw [hKK] at hmk
      refine t_skip ?_
      refine k_then ?_
      refine t_seq ?_
      refine b0 ?_
      refine o1 rfl (det_move rfl) rfl rfl trivial ?_
      refine o1 rfl (det_move rfl) rfl rfl trivial ?_
      first | (refine o1 rfl (det_addI rfl rfl ?_) rfl rfl trivial ?_; (· omega)) | refine o1 rfl (det_add rfl rfl) rfl rfl trivial ?_
      refine o1 rfl (det_fieldAddr fld26_1 rfl) rfl rfl trivial ?_
      refine o1 rfl (det_load1 t1_3 rfl rfl (.head _) rfl) rfl rfl trivial ?_
      first | (refine o1 rfl (det_mulI rfl rfl ?_) rfl rfl trivial ?_; (· omega)) | refine o1 rfl (det_mul rfl rfl) rfl rfl trivial ?_
      first | (refine o1 rfl (det_addI rfl rfl ?_) rfl rfl trivial ?_; (· omega)) | refine o1 rfl (det_add rfl rfl) rfl rfl trivial ?_
      refine o1 rfl (det_assign rfl) rfl rfl trivial ?_
      refine be rfl ?_
      refine k_then ?_
      refine t_seq ?_
      refine bD mixed ?_
      refine r_seg 14 14 [] [0, 1, 2, 3, 4, 5, 6, 7, 8, 9, 10, 11, 12, 13] (by kernel_rfl) ?_
      refine s1 rfl (det_move rfl) rfl rfl trivial rfl ?_
      first | (refine s1 rfl (det_indexAddr sl27 rfl rfl ?_) rfl rfl trivial rfl ?_; (· (first | decide | omega)))
      refine s1 rfl (det_loadKN tN57 rfl (ptv_len hs0[6]) (hP.cells (i := 6) (k := 6) rfl h6l (ptv_len _))) rfl rfl trivial rfl ?_
      refine s1 rfl (det_call hb54 rfl rfl (fun w1 hs => none_ok hs.know)) rfl rfl trivial rfl ?_
      refine s1 rfl (det_not rfl) rfl rfl trivial rfl ?_
      refine s2P not_iff_false rfl (det_move rfl) rfl rfl trivial rfl (fun hb => ?_) (fun hb => ?_)
      ·
        refine s1 rfl (det_loadN tN26 rfl rfl (.head _) rfl) rfl rfl ⟨_, rfl, rfl⟩ rfl ?_
        refine s1 rfl (det_move rfl) rfl rfl ⟨_, rfl, rfl⟩ rfl ?_
        first | (refine s1 rfl (det_indexAddr sl27 rfl rfl ?_) rfl rfl ⟨_, rfl, rfl⟩ rfl ?_; (· (first | decide | omega)))
        refine s1 rfl (det_loadKN tN57 rfl (ptv_len hs0[6]) (hP.cells (i := 6) (k := 6) rfl h6l (ptv_len _))) rfl rfl ⟨_, rfl, rfl⟩ rfl ?_
        refine s1 rfl (det_move rfl) rfl rfl ⟨_, rfl, rfl⟩ rfl ?_
        refine s1 rfl (det_call hb61 rfl rfl (fun w1 hs => rfits_ok hs.know hl (by decide) hper hsh hl6 hebd)) rfl rfl ⟨_, rfl, rfl⟩ rfl ?_
        refine s1 rfl (det_pickT rfl rfl) rfl rfl trivial rfl ?_
        refine s1 rfl (det_assign rfl) rfl rfl trivial rfl ?_
        refine sg_nil ?_
        refine be rfl ?_
        refine k_then ?_
        refine t_seq ?_
        refine bD mixed ?_
        refine r_seg 14 14 [] [0, 1, 2, 3, 4, 5, 6, 7, 8, 9, 10, 11, 12, 13] (by kernel_rfl) ?_
        refine s1 rfl (det_move rfl) rfl rfl trivial rfl ?_
        first | (refine s1 rfl (det_indexAddr sl27 rfl rfl ?_) rfl rfl trivial rfl ?_; (· (first | decide | omega)))
        refine s1 rfl (det_loadKN tN57 rfl (ptv_len hs0[7]) (hP.cells (i := 7) (k := 7) rfl h7l (ptv_len _))) rfl rfl trivial rfl ?_
        refine s1 rfl (det_call hb54 rfl rfl (fun w1 hs => none_ok hs.know)) rfl rfl trivial rfl ?_
        refine s1 rfl (det_not rfl) rfl rfl trivial rfl ?_
        refine s2P not_iff_false rfl (det_move rfl) rfl rfl trivial rfl (fun hb => ?_) (fun hb => ?_)
        ·
          refine s1 rfl (det_loadN tN26 rfl rfl (.head _) rfl) rfl rfl ⟨_, rfl, rfl⟩ rfl ?_
          refine s1 rfl (det_move rfl) rfl rfl ⟨_, rfl, rfl⟩ rfl ?_
          first | (refine s1 rfl (det_indexAddr sl27 rfl rfl ?_) rfl rfl ⟨_, rfl, rfl⟩ rfl ?_; (· (first | decide | omega)))
          refine s1 rfl (det_loadKN tN57 rfl (ptv_len hs0[7]) (hP.cells (i := 7) (k := 7) rfl h7l (ptv_len _))) rfl rfl ⟨_, rfl, rfl⟩ rfl ?_
          refine s1 rfl (det_move rfl) rfl rfl ⟨_, rfl, rfl⟩ rfl ?_
          refine s1 rfl (det_call hb61 rfl rfl (fun w1 hs => rfits_ok hs.know hl (by decide) hper hsh hl7 hebd)) rfl rfl ⟨_, rfl, rfl⟩ rfl ?_
          refine s1 rfl (det_pickT rfl rfl) rfl rfl trivial rfl ?_
          refine s1 rfl (det_assign rfl) rfl rfl trivial rfl ?_
          refine sg_nil ?_
          refine be rfl ?_
          refine k_then ?_
          refine t_seq ?_
          refine t_seq ?_
          refine b0 ?_
          refine o1 rfl (det_move rfl) rfl rfl trivial ?_
          refine o1 rfl (det_move rfl) rfl rfl trivial ?_
          first | (refine o1 rfl (det_subI rfl rfl ?_) rfl rfl trivial ?_; (· omega)) | refine o1 rfl (det_sub rfl rfl) rfl rfl trivial ?_
          refine o1 rfl (det_lss rfl rfl) rfl rfl trivial ?_
          refine o2P decide_eq_true_iff rfl (det_move rfl) rfl rfl trivial (fun hb => ?_) (fun hb => ?_)
          ·
            refine on rfl rfl rfl ⟨_, rfl, .inl rfl⟩ ?_
            refine on rfl rfl rfl ⟨_, rfl, .inl rfl⟩ ?_
            refine on rfl rfl rfl ⟨_, rfl, .inl rfl⟩ ?_
            refine on rfl rfl rfl ⟨_, rfl, .inr rfl⟩ ?_
            refine on rfl rfl rfl ⟨_, rfl, .inr rfl⟩ ?_
            refine on rfl rfl rfl ⟨_, rfl, .inl rfl⟩ ?_
            refine o1 rfl (det_pickT rfl rfl) rfl rfl trivial ?_
            refine be rfl ?_
            refine k_then ?_
            refine t_condT rfl ?_
            refine t_seq ?_
            refine b0 ?_
            refine o1 rfl (det_assign rfl) rfl rfl trivial ?_
            refine o1 rfl (det_assign rfl) rfl rfl trivial ?_
            refine o1 rfl (det_assign rfl) rfl rfl trivial ?_
            refine be rfl ?_
            refine k_then ?_
            refine t_ret (k_thenR (?_))
            refine ret_tmp3 rfl rfl rfl rfl rfl (fun w1 hs => ?_)
            rw [hEE]
            unfold preR
            rw [hKK]
            first
            | exact ⟨by rw [show preB l hs0 o b t = true by unfold preB; rw [hEE, hKK, hm6, hm7]; grind]; rfl, hs.keep⟩
            | exact ⟨by rw [show preB l hs0 o b t = false by unfold preB; rw [hEE, hKK, hm6, hm7]; grind]; rfl, hs.keep⟩
          ·
            refine o1 rfl (det_move rfl) rfl rfl ⟨_, rfl, rfl⟩ ?_
            refine o1 rfl (det_not rfl) rfl rfl ⟨_, rfl, rfl⟩ ?_
            refine o2P not_iff_false rfl (det_move rfl) rfl rfl ⟨_, rfl, rfl⟩ (fun hb => ?_) (fun hb => ?_)
            ·
              refine o1 rfl (det_move rfl) rfl rfl ⟨_, rfl, rfl⟩ ?_
              refine o1 rfl (det_not rfl) rfl rfl ⟨_, rfl, rfl⟩ ?_
              refine o1 rfl (det_pickT rfl rfl) rfl rfl ⟨_, rfl, rfl⟩ ?_
              refine o1 rfl (det_pickF rfl rfl) rfl rfl trivial ?_
              refine be rfl ?_
              refine k_then ?_
              refine t_condP not_iff_false rfl (fun hb => ?_) (fun hb => ?_)
              ·
                refine t_seq ?_
                refine b0 ?_
                refine o1 rfl (det_assign rfl) rfl rfl trivial ?_
                refine o1 rfl (det_assign rfl) rfl rfl trivial ?_
                refine o1 rfl (det_assign rfl) rfl rfl trivial ?_
                refine be rfl ?_
                refine k_then ?_
                refine t_ret (k_thenR (?_))
                refine ret_tmp3 rfl rfl rfl rfl rfl (fun w1 hs => ?_)
                rw [hEE]
                unfold preR
                rw [hKK]
                first
                | exact ⟨by rw [show preB l hs0 o b t = true by unfold preB; rw [hEE, hKK, hm6, hm7]; grind]; rfl, hs.keep⟩
                | exact ⟨by rw [show preB l hs0 o b t = false by unfold preB; rw [hEE, hKK, hm6, hm7]; grind]; rfl, hs.keep⟩
              ·
                refine t_skip ?_
                refine k_then ?_
                refine t_seq ?_
                refine b0 ?_
                refine o1 rfl (det_move rfl) rfl rfl trivial ?_
                refine o1 rfl (det_move rfl) rfl rfl trivial ?_
                refine o1 rfl (det_move rfl) rfl rfl trivial ?_
                first | (refine o1 rfl (det_subI rfl rfl ?_) rfl rfl trivial ?_; (· omega)) | refine o1 rfl (det_sub rfl rfl) rfl rfl trivial ?_
                first | (refine o1 rfl (det_addI rfl rfl ?_) rfl rfl trivial ?_; (· omega)) | refine o1 rfl (det_add rfl rfl) rfl rfl trivial ?_
                refine o1 rfl (det_assign rfl) rfl rfl trivial ?_
                refine o1 rfl (det_assign rfl) rfl rfl trivial ?_
                refine o1 rfl (det_assign rfl) rfl rfl trivial ?_
                refine be rfl ?_
                refine k_then ?_
                refine t_ret ?_
                refine ret_tmp3 rfl rfl rfl rfl rfl (fun w1 hs => ?_)
                rw [hEE]
                unfold preR
                rw [hKK]
                first
                | exact ⟨by rw [show preB l hs0 o b t = true by unfold preB; rw [hEE, hKK, hm6, hm7]; grind]; rfl, hs.keep⟩
                | exact ⟨by rw [show preB l hs0 o b t = false by unfold preB; rw [hEE, hKK, hm6, hm7]; grind]; rfl, hs.keep⟩
            ·
              refine on rfl rfl rfl ⟨_, rfl, .inl rfl⟩ ?_
              refine on rfl rfl rfl ⟨_, rfl, .inl rfl⟩ ?_
              refine o1 rfl (det_pickF rfl rfl) rfl rfl ⟨_, rfl, rfl⟩ ?_
              refine o1 rfl (det_pickF rfl rfl) rfl rfl trivial ?_
              refine be rfl ?_
              refine k_then ?_
              refine t_condF rfl ?_
              refine t_skip ?_
              refine k_then ?_
              refine t_seq ?_
              refine b0 ?_
              refine o1 rfl (det_move rfl) rfl rfl trivial ?_
              refine o1 rfl (det_move rfl) rfl rfl trivial ?_
              refine o1 rfl (det_move rfl) rfl rfl trivial ?_
              first | (refine o1 rfl (det_subI rfl rfl ?_) rfl rfl trivial ?_; (· omega)) | refine o1 rfl (det_sub rfl rfl) rfl rfl trivial ?_
              first | (refine o1 rfl (det_addI rfl rfl ?_) rfl rfl trivial ?_; (· omega)) | refine o1 rfl (det_add rfl rfl) rfl rfl trivial ?_
              refine o1 rfl (det_assign rfl) rfl rfl trivial ?_
              refine o1 rfl (det_assign rfl) rfl rfl trivial ?_
              refine o1 rfl (det_assign rfl) rfl rfl trivial ?_
              refine be rfl ?_
              refine k_then ?_
              refine t_ret ?_
              refine ret_tmp3 rfl rfl rfl rfl rfl (fun w1 hs => ?_)
              rw [hEE]
              unfold preR
              rw [hKK]
              first
              | exact ⟨by rw [show preB l hs0 o b t = true by unfold preB; rw [hEE, hKK, hm6, hm7]; grind]; rfl, hs.keep⟩
              | exact ⟨by rw [show preB l hs0 o b t = false by unfold preB; rw [hEE, hKK, hm6, hm7]; grind]; rfl, hs.keep⟩
        ·
          refine sn rfl rfl rfl ⟨_, rfl, .inl rfl⟩ ?_
          refine sn rfl rfl rfl ⟨_, rfl, .inl rfl⟩ ?_
          refine sn rfl rfl rfl ⟨_, rfl, .inl rfl⟩ ?_
          refine sn rfl rfl rfl ⟨_, rfl, .inl rfl⟩ ?_
          refine sn rfl rfl rfl ⟨_, rfl, .inl rfl⟩ ?_
          refine sn rfl rfl rfl ⟨_, rfl, .inl rfl⟩ ?_
          refine s1 rfl (det_pickF rfl rfl) rfl rfl trivial rfl ?_
          refine s1 rfl (det_assign rfl) rfl rfl trivial rfl ?_
          refine sg_nil ?_
          refine be rfl ?_
          refine k_then ?_
          refine t_seq ?_
          refine t_seq ?_
          refine b0 ?_
          refine o1 rfl (det_move rfl) rfl rfl trivial ?_
          refine o1 rfl (det_move rfl) rfl rfl trivial ?_
          first | (refine o1 rfl (det_subI rfl rfl ?_) rfl rfl trivial ?_; (· omega)) | refine o1 rfl (det_sub rfl rfl) rfl rfl trivial ?_
          refine o1 rfl (det_lss rfl rfl) rfl rfl trivial ?_
          refine o2P decide_eq_true_iff rfl (det_move rfl) rfl rfl trivial (fun hb => ?_) (fun hb => ?_)
          ·
            refine on rfl rfl rfl ⟨_, rfl, .inl rfl⟩ ?_
            refine on rfl rfl rfl ⟨_, rfl, .inl rfl⟩ ?_
            refine on rfl rfl rfl ⟨_, rfl, .inl rfl⟩ ?_
            refine on rfl rfl rfl ⟨_, rfl, .inr rfl⟩ ?_
            refine on rfl rfl rfl ⟨_, rfl, .inr rfl⟩ ?_
            refine on rfl rfl rfl ⟨_, rfl, .inl rfl⟩ ?_
            refine o1 rfl (det_pickT rfl rfl) rfl rfl trivial ?_
            refine be rfl ?_
            refine k_then ?_
            refine t_condT rfl ?_
            refine t_seq ?_
            refine b0 ?_
            refine o1 rfl (det_assign rfl) rfl rfl trivial ?_
            refine o1 rfl (det_assign rfl) rfl rfl trivial ?_
            refine o1 rfl (det_assign rfl) rfl rfl trivial ?_
            refine be rfl ?_
            refine k_then ?_
            refine t_ret (k_thenR (?_))
            refine ret_tmp3 rfl rfl rfl rfl rfl (fun w1 hs => ?_)
            rw [hEE]
            unfold preR
            rw [hKK]
            first
            | exact ⟨by rw [show preB l hs0 o b t = true by unfold preB; rw [hEE, hKK, hm6, hm7]; grind]; rfl, hs.keep⟩
            | exact ⟨by rw [show preB l hs0 o b t = false by unfold preB; rw [hEE, hKK, hm6, hm7]; grind]; rfl, hs.keep⟩
          ·
            refine o1 rfl (det_move rfl) rfl rfl ⟨_, rfl, rfl⟩ ?_
            refine o1 rfl (det_not rfl) rfl rfl ⟨_, rfl, rfl⟩ ?_
            refine o2P not_iff_false rfl (det_move rfl) rfl rfl ⟨_, rfl, rfl⟩ (fun hb => ?_) (fun hb => ?_)
            ·
              refine o1 rfl (det_move rfl) rfl rfl ⟨_, rfl, rfl⟩ ?_
              refine o1 rfl (det_not rfl) rfl rfl ⟨_, rfl, rfl⟩ ?_
              refine o1 rfl (det_pickT rfl rfl) rfl rfl ⟨_, rfl, rfl⟩ ?_
              refine o1 rfl (det_pickF rfl rfl) rfl rfl trivial ?_
              refine be rfl ?_
              refine k_then ?_
              refine t_condT rfl ?_
              refine t_seq ?_
              refine b0 ?_
              refine o1 rfl (det_assign rfl) rfl rfl trivial ?_
              refine o1 rfl (det_assign rfl) rfl rfl trivial ?_
              refine o1 rfl (det_assign rfl) rfl rfl trivial ?_
              refine be rfl ?_
              refine k_then ?_
              refine t_ret (k_thenR (?_))
              refine ret_tmp3 rfl rfl rfl rfl rfl (fun w1 hs => ?_)
              rw [hEE]
              unfold preR
              rw [hKK]
              first
              | exact ⟨by rw [show preB l hs0 o b t = true by unfold preB; rw [hEE, hKK, hm6, hm7]; grind]; rfl, hs.keep⟩
              | exact ⟨by rw [show preB l hs0 o b t = false by unfold preB; rw [hEE, hKK, hm6, hm7]; grind]; rfl, hs.keep⟩
            ·
              refine on rfl rfl rfl ⟨_, rfl, .inl rfl⟩ ?_
              refine on rfl rfl rfl ⟨_, rfl, .inl rfl⟩ ?_
              refine o1 rfl (det_pickF rfl rfl) rfl rfl ⟨_, rfl, rfl⟩ ?_
              refine o1 rfl (det_pickF rfl rfl) rfl rfl trivial ?_
              refine be rfl ?_
              refine k_then ?_
              refine t_condF rfl ?_
              refine t_skip ?_
              refine k_then ?_
              refine t_seq ?_
              refine b0 ?_
              refine o1 rfl (det_move rfl) rfl rfl trivial ?_
              refine o1 rfl (det_move rfl) rfl rfl trivial ?_
              refine o1 rfl (det_move rfl) rfl rfl trivial ?_
              first | (refine o1 rfl (det_subI rfl rfl ?_) rfl rfl trivial ?_; (· omega)) | refine o1 rfl (det_sub rfl rfl) rfl rfl trivial ?_
              first | (refine o1 rfl (det_addI rfl rfl ?_) rfl rfl trivial ?_; (· omega)) | refine o1 rfl (det_add rfl rfl) rfl rfl trivial ?_
              refine o1 rfl (det_assign rfl) rfl rfl trivial ?_
              refine o1 rfl (det_assign rfl) rfl rfl trivial ?_
              refine o1 rfl (det_assign rfl) rfl rfl trivial ?_
              refine be rfl ?_
              refine k_then ?_
              refine t_ret ?_
              refine ret_tmp3 rfl rfl rfl rfl rfl (fun w1 hs => ?_)
              rw [hEE]
              unfold preR
              rw [hKK]
              first
              | exact ⟨by rw [show preB l hs0 o b t = true by unfold preB; rw [hEE, hKK, hm6, hm7]; grind]; rfl, hs.keep⟩
              | exact ⟨by rw [show preB l hs0 o b t = false by unfold preB; rw [hEE, hKK, hm6, hm7]; grind]; rfl, hs.keep⟩
      ·
        refine sn rfl rfl rfl ⟨_, rfl, .inl rfl⟩ ?_
        refine sn rfl rfl rfl ⟨_, rfl, .inl rfl⟩ ?_
        refine sn rfl rfl rfl ⟨_, rfl, .inl rfl⟩ ?_
        refine sn rfl rfl rfl ⟨_, rfl, .inl rfl⟩ ?_
        refine sn rfl rfl rfl ⟨_, rfl, .inl rfl⟩ ?_
        refine sn rfl rfl rfl ⟨_, rfl, .inl rfl⟩ ?_
        refine s1 rfl (det_pickF rfl rfl) rfl rfl trivial rfl ?_
        refine s1 rfl (det_assign rfl) rfl rfl trivial rfl ?_
        refine sg_nil ?_
        refine be rfl ?_
        refine k_then ?_
        refine t_seq ?_
        refine bD mixed ?_
        refine r_seg 14 14 [] [0, 1, 2, 3, 4, 5, 6, 7, 8, 9, 10, 11, 12, 13] (by kernel_rfl) ?_
        refine s1 rfl (det_move rfl) rfl rfl trivial rfl ?_
        first | (refine s1 rfl (det_indexAddr sl27 rfl rfl ?_) rfl rfl trivial rfl ?_; (· (first | decide | omega)))
        refine s1 rfl (det_loadKN tN57 rfl (ptv_len hs0[7]) (hP.cells (i := 7) (k := 7) rfl h7l (ptv_len _))) rfl rfl trivial rfl ?_
        refine s1 rfl (det_call hb54 rfl rfl (fun w1 hs => none_ok hs.know)) rfl rfl trivial rfl ?_
        refine s1 rfl (det_not rfl) rfl rfl trivial rfl ?_
        refine s2P not_iff_false rfl (det_move rfl) rfl rfl trivial rfl (fun hb => ?_) (fun hb => ?_)
        ·
          refine s1 rfl (det_loadN tN26 rfl rfl (.head _) rfl) rfl rfl ⟨_, rfl, rfl⟩ rfl ?_
          refine s1 rfl (det_move rfl) rfl rfl ⟨_, rfl, rfl⟩ rfl ?_
          first | (refine s1 rfl (det_indexAddr sl27 rfl rfl ?_) rfl rfl ⟨_, rfl, rfl⟩ rfl ?_; (· (first | decide | omega)))
          refine s1 rfl (det_loadKN tN57 rfl (ptv_len hs0[7]) (hP.cells (i := 7) (k := 7) rfl h7l (ptv_len _))) rfl rfl ⟨_, rfl, rfl⟩ rfl ?_
          refine s1 rfl (det_move rfl) rfl rfl ⟨_, rfl, rfl⟩ rfl ?_
          refine s1 rfl (det_call hb61 rfl rfl (fun w1 hs => rfits_ok hs.know hl (by decide) hper hsh hl7 hebd)) rfl rfl ⟨_, rfl, rfl⟩ rfl ?_
          refine s1 rfl (det_pickT rfl rfl) rfl rfl trivial rfl ?_
          refine s1 rfl (det_assign rfl) rfl rfl trivial rfl ?_
          refine sg_nil ?_
          refine be rfl ?_
          refine k_then ?_
          refine t_seq ?_
          refine t_seq ?_
          refine b0 ?_
          refine o1 rfl (det_move rfl) rfl rfl trivial ?_
          refine o1 rfl (det_move rfl) rfl rfl trivial ?_
          first | (refine o1 rfl (det_subI rfl rfl ?_) rfl rfl trivial ?_; (· omega)) | refine o1 rfl (det_sub rfl rfl) rfl rfl trivial ?_
          refine o1 rfl (det_lss rfl rfl) rfl rfl trivial ?_
          refine o2P decide_eq_true_iff rfl (det_move rfl) rfl rfl trivial (fun hb => ?_) (fun hb => ?_)
          ·
            refine on rfl rfl rfl ⟨_, rfl, .inl rfl⟩ ?_
            refine on rfl rfl rfl ⟨_, rfl, .inl rfl⟩ ?_
            refine on rfl rfl rfl ⟨_, rfl, .inl rfl⟩ ?_
            refine on rfl rfl rfl ⟨_, rfl, .inr rfl⟩ ?_
            refine on rfl rfl rfl ⟨_, rfl, .inr rfl⟩ ?_
            refine on rfl rfl rfl ⟨_, rfl, .inl rfl⟩ ?_
            refine o1 rfl (det_pickT rfl rfl) rfl rfl trivial ?_
            refine be rfl ?_
            refine k_then ?_
            refine t_condT rfl ?_
            refine t_seq ?_
            refine b0 ?_
            refine o1 rfl (det_assign rfl) rfl rfl trivial ?_
            refine o1 rfl (det_assign rfl) rfl rfl trivial ?_
            refine o1 rfl (det_assign rfl) rfl rfl trivial ?_
            refine be rfl ?_
            refine k_then ?_
            refine t_ret (k_thenR (?_))
            refine ret_tmp3 rfl rfl rfl rfl rfl (fun w1 hs => ?_)
            rw [hEE]
            unfold preR
            rw [hKK]
            first
            | exact ⟨by rw [show preB l hs0 o b t = true by unfold preB; rw [hEE, hKK, hm6, hm7]; grind]; rfl, hs.keep⟩
            | exact ⟨by rw [show preB l hs0 o b t = false by unfold preB; rw [hEE, hKK, hm6, hm7]; grind]; rfl, hs.keep⟩
          ·
            refine o1 rfl (det_move rfl) rfl rfl ⟨_, rfl, rfl⟩ ?_
            refine o1 rfl (det_not rfl) rfl rfl ⟨_, rfl, rfl⟩ ?_
            refine o1 rfl (det_move rfl) rfl rfl ⟨_, rfl, rfl⟩ ?_
            refine o1 rfl (det_move rfl) rfl rfl ⟨_, rfl, rfl⟩ ?_
            refine o1 rfl (det_not rfl) rfl rfl ⟨_, rfl, rfl⟩ ?_
            refine o1 rfl (det_pickT rfl rfl) rfl rfl ⟨_, rfl, rfl⟩ ?_
            refine o1 rfl (det_pickF rfl rfl) rfl rfl trivial ?_
            refine be rfl ?_
            refine k_then ?_
            refine t_condP not_iff_false rfl (fun hb => ?_) (fun hb => ?_)
            ·
              refine t_seq ?_
              refine b0 ?_
              refine o1 rfl (det_assign rfl) rfl rfl trivial ?_
              refine o1 rfl (det_assign rfl) rfl rfl trivial ?_
              refine o1 rfl (det_assign rfl) rfl rfl trivial ?_
              refine be rfl ?_
              refine k_then ?_
              refine t_ret (k_thenR (?_))
              refine ret_tmp3 rfl rfl rfl rfl rfl (fun w1 hs => ?_)
              rw [hEE]
              unfold preR
              rw [hKK]
              first
              | exact ⟨by rw [show preB l hs0 o b t = true by unfold preB; rw [hEE, hKK, hm6, hm7]; grind]; rfl, hs.keep⟩
              | exact ⟨by rw [show preB l hs0 o b t = false by unfold preB; rw [hEE, hKK, hm6, hm7]; grind]; rfl, hs.keep⟩
            ·
              refine t_skip ?_
              refine k_then ?_
              refine t_seq ?_
              refine b0 ?_
              refine o1 rfl (det_move rfl) rfl rfl trivial ?_
              refine o1 rfl (det_move rfl) rfl rfl trivial ?_
              refine o1 rfl (det_move rfl) rfl rfl trivial ?_
              first | (refine o1 rfl (det_subI rfl rfl ?_) rfl rfl trivial ?_; (· omega)) | refine o1 rfl (det_sub rfl rfl) rfl rfl trivial ?_
              first | (refine o1 rfl (det_addI rfl rfl ?_) rfl rfl trivial ?_; (· omega)) | refine o1 rfl (det_add rfl rfl) rfl rfl trivial ?_
              refine o1 rfl (det_assign rfl) rfl rfl trivial ?_
              refine o1 rfl (det_assign rfl) rfl rfl trivial ?_
              refine o1 rfl (det_assign rfl) rfl rfl trivial ?_
              refine be rfl ?_
              refine k_then ?_
              refine t_ret ?_
              refine ret_tmp3 rfl rfl rfl rfl rfl (fun w1 hs => ?_)
              rw [hEE]
              unfold preR
              rw [hKK]
              first
              | exact ⟨by rw [show preB l hs0 o b t = true by unfold preB; rw [hEE, hKK, hm6, hm7]; grind]; rfl, hs.keep⟩
              | exact ⟨by rw [show preB l hs0 o b t = false by unfold preB; rw [hEE, hKK, hm6, hm7]; grind]; rfl, hs.keep⟩
        ·
          refine sn rfl rfl rfl ⟨_, rfl, .inl rfl⟩ ?_
          refine sn rfl rfl rfl ⟨_, rfl, .inl rfl⟩ ?_
          refine sn rfl rfl rfl ⟨_, rfl, .inl rfl⟩ ?_
          refine sn rfl rfl rfl ⟨_, rfl, .inl rfl⟩ ?_
          refine sn rfl rfl rfl ⟨_, rfl, .inl rfl⟩ ?_
          refine sn rfl rfl rfl ⟨_, rfl, .inl rfl⟩ ?_
          refine s1 rfl (det_pickF rfl rfl) rfl rfl trivial rfl ?_
          refine s1 rfl (det_assign rfl) rfl rfl trivial rfl ?_
          refine sg_nil ?_
          refine be rfl ?_
          refine k_then ?_
          refine t_seq ?_
          refine t_seq ?_
          refine b0 ?_
          refine o1 rfl (det_move rfl) rfl rfl trivial ?_
          refine o1 rfl (det_move rfl) rfl rfl trivial ?_
          first | (refine o1 rfl (det_subI rfl rfl ?_) rfl rfl trivial ?_; (· omega)) | refine o1 rfl (det_sub rfl rfl) rfl rfl trivial ?_
          refine o1 rfl (det_lss rfl rfl) rfl rfl trivial ?_
          refine o2P decide_eq_true_iff rfl (det_move rfl) rfl rfl trivial (fun hb => ?_) (fun hb => ?_)
          ·
            refine on rfl rfl rfl ⟨_, rfl, .inl rfl⟩ ?_
            refine on rfl rfl rfl ⟨_, rfl, .inl rfl⟩ ?_
            refine on rfl rfl rfl ⟨_, rfl, .inl rfl⟩ ?_
            refine on rfl rfl rfl ⟨_, rfl, .inr rfl⟩ ?_
            refine on rfl rfl rfl ⟨_, rfl, .inr rfl⟩ ?_
            refine on rfl rfl rfl ⟨_, rfl, .inl rfl⟩ ?_
            refine o1 rfl (det_pickT rfl rfl) rfl rfl trivial ?_
            refine be rfl ?_
            refine k_then ?_
            refine t_condT rfl ?_
            refine t_seq ?_
            refine b0 ?_
            refine o1 rfl (det_assign rfl) rfl rfl trivial ?_
            refine o1 rfl (det_assign rfl) rfl rfl trivial ?_
            refine o1 rfl (det_assign rfl) rfl rfl trivial ?_
            refine be rfl ?_
            refine k_then ?_
            refine t_ret (k_thenR (?_))
            refine ret_tmp3 rfl rfl rfl rfl rfl (fun w1 hs => ?_)
            rw [hEE]
            unfold preR
            rw [hKK]
            first
            | exact ⟨by rw [show preB l hs0 o b t = true by unfold preB; rw [hEE, hKK, hm6, hm7]; grind]; rfl, hs.keep⟩
            | exact ⟨by rw [show preB l hs0 o b t = false by unfold preB; rw [hEE, hKK, hm6, hm7]; grind]; rfl, hs.keep⟩
          ·
            refine o1 rfl (det_move rfl) rfl rfl ⟨_, rfl, rfl⟩ ?_
            refine o1 rfl (det_not rfl) rfl rfl ⟨_, rfl, rfl⟩ ?_
            refine o1 rfl (det_move rfl) rfl rfl ⟨_, rfl, rfl⟩ ?_
            refine o1 rfl (det_move rfl) rfl rfl ⟨_, rfl, rfl⟩ ?_
            refine o1 rfl (det_not rfl) rfl rfl ⟨_, rfl, rfl⟩ ?_
            refine o1 rfl (det_pickT rfl rfl) rfl rfl ⟨_, rfl, rfl⟩ ?_
            refine o1 rfl (det_pickF rfl rfl) rfl rfl trivial ?_
            refine be rfl ?_
            refine k_then ?_
            refine t_condT rfl ?_
            refine t_seq ?_
            refine b0 ?_
            refine o1 rfl (det_assign rfl) rfl rfl trivial ?_
            refine o1 rfl (det_assign rfl) rfl rfl trivial ?_
            refine o1 rfl (det_assign rfl) rfl rfl trivial ?_
            refine be rfl ?_
            refine k_then ?_
            refine t_ret (k_thenR (?_))
            refine ret_tmp3 rfl rfl rfl rfl rfl (fun w1 hs => ?_)
            rw [hEE]
            unfold preR
            rw [hKK]
            first
            | exact ⟨by rw [show preB l hs0 o b t = true by unfold preB; rw [hEE, hKK, hm6, hm7]; grind]; rfl, hs.keep⟩
            | exact ⟨by rw [show preB l hs0 o b t = false by unfold preB; rw [hEE, hKK, hm6, hm7]; grind]; rfl, hs.keep⟩
  ·
    have hcv := hcd2.2 hb
    --note:dn
    refine t_skip ?_
    refine k_then ?_
    refine t_seq ?_
    refine t_seq ?_
    refine b0 ?_
    refine o1 rfl (det_move rfl) rfl rfl trivial ?_
    refine o1 rfl (det_lss rfl rfl) rfl rfl trivial ?_
    refine be rfl ?_
    refine k_then ?_
    refine t_condP decide_eq_true_iff rfl (fun hb => ?_) (fun hb => ?_)
    ·
      have hKK : preK l b t = 64 := by rw [hKd]; omega
      have hEE : preE l b t = b + (64 + 24) * l.per := by unfold preE; rw [hKK]
      rw [hEE] at hebd hm6 hm7
      rw [hKK] at hmk
      refine b0 ?_
      refine o1 rfl (det_assign rfl) rfl rfl trivial ?_
      refine be rfl ?_
      refine k_then ?_
      refine t_seq ?_
      refine b0 ?_
      refine o1 rfl (det_move rfl) rfl rfl trivial ?_
      refine o1 rfl (det_move rfl) rfl rfl trivial ?_
      first | (refine o1 rfl (det_addI rfl rfl ?_) rfl rfl trivial ?_; (· omega)) | refine o1 rfl (det_add rfl rfl) rfl rfl trivial ?_
      refine o1 rfl (det_fieldAddr fld26_1 rfl) rfl rfl trivial ?_
      refine o1 rfl (det_load1 t1_3 rfl rfl (.head _) rfl) rfl rfl trivial ?_
      first | (refine o1 rfl (det_mulI rfl rfl ?_) rfl rfl trivial ?_; (· omega)) | refine o1 rfl (det_mul rfl rfl) rfl rfl trivial ?_
      first | (refine o1 rfl (det_addI rfl rfl ?_) rfl rfl trivial ?_; (· omega)) | refine o1 rfl (det_add rfl rfl) rfl rfl trivial ?_
      refine o1 rfl (det_assign rfl) rfl rfl trivial ?_
      refine be rfl ?_
      refine k_then ?_
      refine t_seq ?_
      refine bD mixed ?_
      refine r_seg 14 14 [] [0, 1, 2, 3, 4, 5, 6, 7, 8, 9, 10, 11, 12, 13] (by kernel_rfl) ?_
      refine s1 rfl (det_move rfl) rfl rfl trivial rfl ?_
      first | (refine s1 rfl (det_indexAddr sl27 rfl rfl ?_) rfl rfl trivial rfl ?_; (· (first | decide | omega)))
      refine s1 rfl (det_loadKN tN57 rfl (ptv_len hs0[6]) (hP.cells (i := 6) (k := 6) rfl h6l (ptv_len _))) rfl rfl trivial rfl ?_
      refine s1 rfl (det_call hb54 rfl rfl (fun w1 hs => none_ok hs.know)) rfl rfl trivial rfl ?_
      refine s1 rfl (det_not rfl) rfl rfl trivial rfl ?_
      refine s2P not_iff_false rfl (det_move rfl) rfl rfl trivial rfl (fun hb => ?_) (fun hb => ?_)
      ·
        refine s1 rfl (det_loadN tN26 rfl rfl (.head _) rfl) rfl rfl ⟨_, rfl, rfl⟩ rfl ?_
        refine s1 rfl (det_move rfl) rfl rfl ⟨_, rfl, rfl⟩ rfl ?_
        first | (refine s1 rfl (det_indexAddr sl27 rfl rfl ?_) rfl rfl ⟨_, rfl, rfl⟩ rfl ?_; (· (first | decide | omega)))
        refine s1 rfl (det_loadKN tN57 rfl (ptv_len hs0[6]) (hP.cells (i := 6) (k := 6) rfl h6l (ptv_len _))) rfl rfl ⟨_, rfl, rfl⟩ rfl ?_
        refine s1 rfl (det_move rfl) rfl rfl ⟨_, rfl, rfl⟩ rfl ?_
        refine s1 rfl (det_call hb61 rfl rfl (fun w1 hs => rfits_ok hs.know hl (by decide) hper hsh hl6 hebd)) rfl rfl ⟨_, rfl, rfl⟩ rfl ?_
        refine s1 rfl (det_pickT rfl rfl) rfl rfl trivial rfl ?_
        refine s1 rfl (det_assign rfl) rfl rfl trivial rfl ?_
        refine sg_nil ?_
        refine be rfl ?_
        refine k_then ?_
        refine t_seq ?_
        refine bD mixed ?_
        refine r_seg 14 14 [] [0, 1, 2, 3, 4, 5, 6, 7, 8, 9, 10, 11, 12, 13] (by kernel_rfl) ?_
        refine s1 rfl (det_move rfl) rfl rfl trivial rfl ?_
        first | (refine s1 rfl (det_indexAddr sl27 rfl rfl ?_) rfl rfl trivial rfl ?_; (· (first | decide | omega)))
        refine s1 rfl (det_loadKN tN57 rfl (ptv_len hs0[7]) (hP.cells (i := 7) (k := 7) rfl h7l (ptv_len _))) rfl rfl trivial rfl ?_
        refine s1 rfl (det_call hb54 rfl rfl (fun w1 hs => none_ok hs.know)) rfl rfl trivial rfl ?_
        refine s1 rfl (det_not rfl) rfl rfl trivial rfl ?_
        refine s2P not_iff_false rfl (det_move rfl) rfl rfl trivial rfl (fun hb => ?_) (fun hb => ?_)
        ·
          refine s1 rfl (det_loadN tN26 rfl rfl (.head _) rfl) rfl rfl ⟨_, rfl, rfl⟩ rfl ?_
          refine s1 rfl (det_move rfl) rfl rfl ⟨_, rfl, rfl⟩ rfl ?_
          first | (refine s1 rfl (det_indexAddr sl27 rfl rfl ?_) rfl rfl ⟨_, rfl, rfl⟩ rfl ?_; (· (first | decide | omega)))
          refine s1 rfl (det_loadKN tN57 rfl (ptv_len hs0[7]) (hP.cells (i := 7) (k := 7) rfl h7l (ptv_len _))) rfl rfl ⟨_, rfl, rfl⟩ rfl ?_
          refine s1 rfl (det_move rfl) rfl rfl ⟨_, rfl, rfl⟩ rfl ?_
          refine s1 rfl (det_call hb61 rfl rfl (fun w1 hs => rfits_ok hs.know hl (by decide) hper hsh hl7 hebd)) rfl rfl ⟨_, rfl, rfl⟩ rfl ?_
          refine s1 rfl (det_pickT rfl rfl) rfl rfl trivial rfl ?_
          refine s1 rfl (det_assign rfl) rfl rfl trivial rfl ?_
          refine sg_nil ?_
          refine be rfl ?_
          refine k_then ?_
          refine t_seq ?_
          refine t_seq ?_
          refine b0 ?_
          refine o1 rfl (det_move rfl) rfl rfl trivial ?_
          refine o1 rfl (det_move rfl) rfl rfl trivial ?_
          first | (refine o1 rfl (det_subI rfl rfl ?_) rfl rfl trivial ?_; (· omega)) | refine o1 rfl (det_sub rfl rfl) rfl rfl trivial ?_
          refine o1 rfl (det_lss rfl rfl) rfl rfl trivial ?_
          refine o2P decide_eq_true_iff rfl (det_move rfl) rfl rfl trivial (fun hb => ?_) (fun hb => ?_)
          ·
            refine on rfl rfl rfl ⟨_, rfl, .inl rfl⟩ ?_
            refine on rfl rfl rfl ⟨_, rfl, .inl rfl⟩ ?_
            refine on rfl rfl rfl ⟨_, rfl, .inl rfl⟩ ?_
            refine on rfl rfl rfl ⟨_, rfl, .inr rfl⟩ ?_
            refine on rfl rfl rfl ⟨_, rfl, .inr rfl⟩ ?_
            refine on rfl rfl rfl ⟨_, rfl, .inl rfl⟩ ?_
            refine o1 rfl (det_pickT rfl rfl) rfl rfl trivial ?_
            refine be rfl ?_
            refine k_then ?_
            refine t_condT rfl ?_
            refine t_seq ?_
            refine b0 ?_
            refine o1 rfl (det_assign rfl) rfl rfl trivial ?_
            refine o1 rfl (det_assign rfl) rfl rfl trivial ?_
            refine o1 rfl (det_assign rfl) rfl rfl trivial ?_
            refine be rfl ?_
            refine k_then ?_
            refine t_ret (k_thenR (?_))
            refine ret_tmp3 rfl rfl rfl rfl rfl (fun w1 hs => ?_)
            rw [hEE]
            unfold preR
            rw [hKK]
            first
            | exact ⟨by rw [show preB l hs0 o b t = true by unfold preB; rw [hEE, hKK, hm6, hm7]; grind]; rfl, hs.keep⟩
            | exact ⟨by rw [show preB l hs0 o b t = false by unfold preB; rw [hEE, hKK, hm6, hm7]; grind]; rfl, hs.keep⟩
          ·
            refine o1 rfl (det_move rfl) rfl rfl ⟨_, rfl, rfl⟩ ?_
            refine o1 rfl (det_not rfl) rfl rfl ⟨_, rfl, rfl⟩ ?_
            refine o2P not_iff_false rfl (det_move rfl) rfl rfl ⟨_, rfl, rfl⟩ (fun hb => ?_) (fun hb => ?_)
            ·
              refine o1 rfl (det_move rfl) rfl rfl ⟨_, rfl, rfl⟩ ?_
              refine o1 rfl (det_not rfl) rfl rfl ⟨_, rfl, rfl⟩ ?_
              refine o1 rfl (det_pickT rfl rfl) rfl rfl ⟨_, rfl, rfl⟩ ?_
              refine o1 rfl (det_pickF rfl rfl) rfl rfl trivial ?_
              refine be rfl ?_
              refine k_then ?_
              refine t_condP not_iff_false rfl (fun hb => ?_) (fun hb => ?_)
              ·
                refine t_seq ?_
                refine b0 ?_
                refine o1 rfl (det_assign rfl) rfl rfl trivial ?_
                refine o1 rfl (det_assign rfl) rfl rfl trivial ?_
                refine o1 rfl (det_assign rfl) rfl rfl trivial ?_
                refine be rfl ?_
                refine k_then ?_
                refine t_ret (k_thenR (?_))
                refine ret_tmp3 rfl rfl rfl rfl rfl (fun w1 hs => ?_)
                rw [hEE]
                unfold preR
                rw [hKK]
                first
                | exact ⟨by rw [show preB l hs0 o b t = true by unfold preB; rw [hEE, hKK, hm6, hm7]; grind]; rfl, hs.keep⟩
                | exact ⟨by rw [show preB l hs0 o b t = false by unfold preB; rw [hEE, hKK, hm6, hm7]; grind]; rfl, hs.keep⟩
              ·
                refine t_skip ?_
                refine k_then ?_
                refine t_seq ?_
                refine b0 ?_
                refine o1 rfl (det_move rfl) rfl rfl trivial ?_
                refine o1 rfl (det_move rfl) rfl rfl trivial ?_
                refine o1 rfl (det_move rfl) rfl rfl trivial ?_
                first | (refine o1 rfl (det_subI rfl rfl ?_) rfl rfl trivial ?_; (· omega)) | refine o1 rfl (det_sub rfl rfl) rfl rfl trivial ?_
                first | (refine o1 rfl (det_addI rfl rfl ?_) rfl rfl trivial ?_; (· omega)) | refine o1 rfl (det_add rfl rfl) rfl rfl trivial ?_
                refine o1 rfl (det_assign rfl) rfl rfl trivial ?_
                refine o1 rfl (det_assign rfl) rfl rfl trivial ?_
                refine o1 rfl (det_assign rfl) rfl rfl trivial ?_
                refine be rfl ?_
                refine k_then ?_
                refine t_ret ?_
                refine ret_tmp3 rfl rfl rfl rfl rfl (fun w1 hs => ?_)
                rw [hEE]
                unfold preR
                rw [hKK]
                first
                | exact ⟨by rw [show preB l hs0 o b t = true by unfold preB; rw [hEE, hKK, hm6, hm7]; grind]; rfl, hs.keep⟩
                | exact ⟨by rw [show preB l hs0 o b t = false by unfold preB; rw [hEE, hKK, hm6, hm7]; grind]; rfl, hs.keep⟩
            ·
              refine on rfl rfl rfl ⟨_, rfl, .inl rfl⟩ ?_
              refine on rfl rfl rfl ⟨_, rfl, .inl rfl⟩ ?_
              refine o1 rfl (det_pickF rfl rfl) rfl rfl ⟨_, rfl, rfl⟩ ?_
              refine o1 rfl (det_pickF rfl rfl) rfl rfl trivial ?_
              refine be rfl ?_
              refine k_then ?_
              refine t_condF rfl ?_
              refine t_skip ?_
              refine k_then ?_
              refine t_seq ?_
              refine b0 ?_
              refine o1 rfl (det_move rfl) rfl rfl trivial ?_
              refine o1 rfl (det_move rfl) rfl rfl trivial ?_
              refine o1 rfl (det_move rfl) rfl rfl trivial ?_
              first | (refine o1 rfl (det_subI rfl rfl ?_) rfl rfl trivial ?_; (· omega)) | refine o1 rfl (det_sub rfl rfl) rfl rfl trivial ?_
              first | (refine o1 rfl (det_addI rfl rfl ?_) rfl rfl trivial ?_; (· omega)) | refine o1 rfl (det_add rfl rfl) rfl rfl trivial ?_
              refine o1 rfl (det_assign rfl) rfl rfl trivial ?_
              refine o1 rfl (det_assign rfl) rfl rfl trivial ?_
              refine o1 rfl (det_assign rfl) rfl rfl trivial ?_
              refine be rfl ?_
              refine k_then ?_
              refine t_ret ?_
              refine ret_tmp3 rfl rfl rfl rfl rfl (fun w1 hs => ?_)
              rw [hEE]
              unfold preR
              rw [hKK]
              first
              | exact ⟨by rw [show preB l hs0 o b t = true by unfold preB; rw [hEE, hKK, hm6, hm7]; grind]; rfl, hs.keep⟩
              | exact ⟨by rw [show preB l hs0 o b t = false by unfold preB; rw [hEE, hKK, hm6, hm7]; grind]; rfl, hs.keep⟩
        ·
          refine sn rfl rfl rfl ⟨_, rfl, .inl rfl⟩ ?_
          refine sn rfl rfl rfl ⟨_, rfl, .inl rfl⟩ ?_
          refine sn rfl rfl rfl ⟨_, rfl, .inl rfl⟩ ?_
          refine sn rfl rfl rfl ⟨_, rfl, .inl rfl⟩ ?_
          refine sn rfl rfl rfl ⟨_, rfl, .inl rfl⟩ ?_
          refine sn rfl rfl rfl ⟨_, rfl, .inl rfl⟩ ?_
          refine s1 rfl (det_pickF rfl rfl) rfl rfl trivial rfl ?_
          refine s1 rfl (det_assign rfl) rfl rfl trivial rfl ?_
          refine sg_nil ?_
          refine be rfl ?_
          refine k_then ?_
          refine t_seq ?_
          refine t_seq ?_
          refine b0 ?_
          refine o1 rfl (det_move rfl) rfl rfl trivial ?_
          refine o1 rfl (det_move rfl) rfl rfl trivial ?_
          first | (refine o1 rfl (det_subI rfl rfl ?_) rfl rfl trivial ?_; (· omega)) | refine o1 rfl (det_sub rfl rfl) rfl rfl trivial ?_
          refine o1 rfl (det_lss rfl rfl) rfl rfl trivial ?_
          refine o2P decide_eq_true_iff rfl (det_move rfl) rfl rfl trivial (fun hb => ?_) (fun hb => ?_)
          ·
            refine on rfl rfl rfl ⟨_, rfl, .inl rfl⟩ ?_
            refine on rfl rfl rfl ⟨_, rfl, .inl rfl⟩ ?_
            refine on rfl rfl rfl ⟨_, rfl, .inl rfl⟩ ?_
            refine on rfl rfl rfl ⟨_, rfl, .inr rfl⟩ ?_
            refine on rfl rfl rfl ⟨_, rfl, .inr rfl⟩ ?_
            refine on rfl rfl rfl ⟨_, rfl, .inl rfl⟩ ?_
            refine o1 rfl (det_pickT rfl rfl) rfl rfl trivial ?_
            refine be rfl ?_
            refine k_then ?_
            refine t_condT rfl ?_
            refine t_seq ?_
            refine b0 ?_
            refine o1 rfl (det_assign rfl) rfl rfl trivial ?_
            refine o1 rfl (det_assign rfl) rfl rfl trivial ?_
            refine o1 rfl (det_assign rfl) rfl rfl trivial ?_
            refine be rfl ?_
            refine k_then ?_
            refine t_ret (k_thenR (?_))
            refine ret_tmp3 rfl rfl rfl rfl rfl (fun w1 hs => ?_)
            rw [hEE]
            unfold preR
            rw [hKK]
            first
            | exact ⟨by rw [show preB l hs0 o b t = true by unfold preB; rw [hEE, hKK, hm6, hm7]; grind]; rfl, hs.keep⟩
            | exact ⟨by rw [show preB l hs0 o b t = false by unfold preB; rw [hEE, hKK, hm6, hm7]; grind]; rfl, hs.keep⟩
          ·
            refine o1 rfl (det_move rfl) rfl rfl ⟨_, rfl, rfl⟩ ?_
            refine o1 rfl (det_not rfl) rfl rfl ⟨_, rfl, rfl⟩ ?_
            refine o2P not_iff_false rfl (det_move rfl) rfl rfl ⟨_, rfl, rfl⟩ (fun hb => ?_) (fun hb => ?_)
            ·
              refine o1 rfl (det_move rfl) rfl rfl ⟨_, rfl, rfl⟩ ?_
              refine o1 rfl (det_not rfl) rfl rfl ⟨_, rfl, rfl⟩ ?_
              refine o1 rfl (det_pickT rfl rfl) rfl rfl ⟨_, rfl, rfl⟩ ?_
              refine o1 rfl (det_pickF rfl rfl) rfl rfl trivial ?_
              refine be rfl ?_
              refine k_then ?_
              refine t_condT rfl ?_
              refine t_seq ?_
              refine b0 ?_
              refine o1 rfl (det_assign rfl) rfl rfl trivial ?_
              refine o1 rfl (det_assign rfl) rfl rfl trivial ?_
              refine o1 rfl (det_assign rfl) rfl rfl trivial ?_
              refine be rfl ?_
              refine k_then ?_
              refine t_ret (k_thenR (?_))
              refine ret_tmp3 rfl rfl rfl rfl rfl (fun w1 hs => ?_)
              rw [hEE]
              unfold preR
              rw [hKK]
              first
              | exact ⟨by rw [show preB l hs0 o b t = true by unfold preB; rw [hEE, hKK, hm6, hm7]; grind]; rfl, hs.keep⟩
              | exact ⟨by rw [show preB l hs0 o b t = false by unfold preB; rw [hEE, hKK, hm6, hm7]; grind]; rfl, hs.keep⟩
            ·
              refine on rfl rfl rfl ⟨_, rfl, .inl rfl⟩ ?_
              refine on rfl rfl rfl ⟨_, rfl, .inl rfl⟩ ?_
              refine o1 rfl (det_pickF rfl rfl) rfl rfl ⟨_, rfl, rfl⟩ ?_
              refine o1 rfl (det_pickF rfl rfl) rfl rfl trivial ?_
              refine be rfl ?_
              refine k_then ?_
              refine t_condF rfl ?_
              refine t_skip ?_
              refine k_then ?_
              refine t_seq ?_
              refine b0 ?_
              refine o1 rfl (det_move rfl) rfl rfl trivial ?_
              refine o1 rfl (det_move rfl) rfl rfl trivial ?_
              refine o1 rfl (det_move rfl) rfl rfl trivial ?_
              first | (refine o1 rfl (det_subI rfl rfl ?_) rfl rfl trivial ?_; (· omega)) | refine o1 rfl (det_sub rfl rfl) rfl rfl trivial ?_
              first | (refine o1 rfl (det_addI rfl rfl ?_) rfl rfl trivial ?_; (· omega)) | refine o1 rfl (det_add rfl rfl) rfl rfl trivial ?_
              refine o1 rfl (det_assign rfl) rfl rfl trivial ?_
              refine o1 rfl (det_assign rfl) rfl rfl trivial ?_
              refine o1 rfl (det_assign rfl) rfl rfl trivial ?_
              refine be rfl ?_
              refine k_then ?_
              refine t_ret ?_
              refine ret_tmp3 rfl rfl rfl rfl rfl (fun w1 hs => ?_)
              rw [hEE]
              unfold preR
              rw [hKK]
              first
              | exact ⟨by rw [show preB l hs0 o b t = true by unfold preB; rw [hEE, hKK, hm6, hm7]; grind]; rfl, hs.keep⟩
              | exact ⟨by rw [show preB l hs0 o b t = false by unfold preB; rw [hEE, hKK, hm6, hm7]; grind]; rfl, hs.keep⟩
      ·
        refine sn rfl rfl rfl ⟨_, rfl, .inl rfl⟩ ?_
        refine sn rfl rfl rfl ⟨_, rfl, .inl rfl⟩ ?_
        refine sn rfl rfl rfl ⟨_, rfl, .inl rfl⟩ ?_
        refine sn rfl rfl rfl ⟨_, rfl, .inl rfl⟩ ?_
        refine sn rfl rfl rfl ⟨_, rfl, .inl rfl⟩ ?_
        refine sn rfl rfl rfl ⟨_, rfl, .inl rfl⟩ ?_
        refine s1 rfl (det_pickF rfl rfl) rfl rfl trivial rfl ?_
        refine s1 rfl (det_assign rfl) rfl rfl trivial rfl ?_
        refine sg_nil ?_
        refine be rfl ?_
        refine k_then ?_
        refine t_seq ?_
        refine bD mixed ?_
        refine r_seg 14 14 [] [0, 1, 2, 3, 4, 5, 6, 7, 8, 9, 10, 11, 12, 13] (by kernel_rfl) ?_
        refine s1 rfl (det_move rfl) rfl rfl trivial rfl ?_
        first | (refine s1 rfl (det_indexAddr sl27 rfl rfl ?_) rfl rfl trivial rfl ?_; (· (first | decide | omega)))
        refine s1 rfl (det_loadKN tN57 rfl (ptv_len hs0[7]) (hP.cells (i := 7) (k := 7) rfl h7l (ptv_len _))) rfl rfl trivial rfl ?_
        refine s1 rfl (det_call hb54 rfl rfl (fun w1 hs => none_ok hs.know)) rfl rfl trivial rfl ?_
        refine s1 rfl (det_not rfl) rfl rfl trivial rfl ?_
        refine s2P not_iff_false rfl (det_move rfl) rfl rfl trivial rfl (fun hb => ?_) (fun hb => ?_)
        ·
          refine s1 rfl (det_loadN tN26 rfl rfl (.head _) rfl) rfl rfl ⟨_, rfl, rfl⟩ rfl ?_
          refine s1 rfl (det_move rfl) rfl rfl ⟨_, rfl, rfl⟩ rfl ?_
          first | (refine s1 rfl (det_indexAddr sl27 rfl rfl ?_) rfl rfl ⟨_, rfl, rfl⟩ rfl ?_; (· (first | decide | omega)))
          refine s1 rfl (det_loadKN tN57 rfl (ptv_len hs0[7]) (hP.cells (i := 7) (k := 7) rfl h7l (ptv_len _))) rfl rfl ⟨_, rfl, rfl⟩ rfl ?_
          refine s1 rfl (det_move rfl) rfl rfl ⟨_, rfl, rfl⟩ rfl ?_
          refine s1 rfl (det_call hb61 rfl rfl (fun w1 hs => rfits_ok hs.know hl (by decide) hper hsh hl7 hebd)) rfl rfl ⟨_, rfl, rfl⟩ rfl ?_
          refine s1 rfl (det_pickT rfl rfl) rfl rfl trivial rfl ?_
          refine s1 rfl (det_assign rfl) rfl rfl trivial rfl ?_
          refine sg_nil ?_
          refine be rfl ?_
          refine k_then ?_
          refine t_seq ?_
          refine t_seq ?_
          refine b0 ?_
          refine o1 rfl (det_move rfl) rfl rfl trivial ?_
          refine o1 rfl (det_move rfl) rfl rfl trivial ?_
          first | (refine o1 rfl (det_subI rfl rfl ?_) rfl rfl trivial ?_; (· omega)) | refine o1 rfl (det_sub rfl rfl) rfl rfl trivial ?_
          refine o1 rfl (det_lss rfl rfl) rfl rfl trivial ?_
          refine o2P decide_eq_true_iff rfl (det_move rfl) rfl rfl trivial (fun hb => ?_) (fun hb => ?_)
          ·
            refine on rfl rfl rfl ⟨_, rfl, .inl rfl⟩ ?_
            refine on rfl rfl rfl ⟨_, rfl, .inl rfl⟩ ?_
            refine on rfl rfl rfl ⟨_, rfl, .inl rfl⟩ ?_
            refine on rfl rfl rfl ⟨_, rfl, .inr rfl⟩ ?_
            refine on rfl rfl rfl ⟨_, rfl, .inr rfl⟩ ?_
            refine on rfl rfl rfl ⟨_, rfl, .inl rfl⟩ ?_
            refine o1 rfl (det_pickT rfl rfl) rfl rfl trivial ?_
            refine be rfl ?_
            refine k_then ?_
            refine t_condT rfl ?_
            refine t_seq ?_
            refine b0 ?_
            refine o1 rfl (det_assign rfl) rfl rfl trivial ?_
            refine o1 rfl (det_assign rfl) rfl rfl trivial ?_
            refine o1 rfl (det_assign rfl) rfl rfl trivial ?_
            refine be rfl ?_
            refine k_then ?_
            refine t_ret (k_thenR (?_))
            refine ret_tmp3 rfl rfl rfl rfl rfl (fun w1 hs => ?_)
            rw [hEE]
            unfold preR
            rw [hKK]
            first
            | exact ⟨by rw [show preB l hs0 o b t = true by unfold preB; rw [hEE, hKK, hm6, hm7]; grind]; rfl, hs.keep⟩
            | exact ⟨by rw [show preB l hs0 o b t = false by unfold preB; rw [hEE, hKK, hm6, hm7]; grind]; rfl, hs.keep⟩
          ·
            refine o1 rfl (det_move rfl) rfl rfl ⟨_, rfl, rfl⟩ ?_
            refine o1 rfl (det_not rfl) rfl rfl ⟨_, rfl, rfl⟩ ?_
            refine o1 rfl (det_move rfl) rfl rfl ⟨_, rfl, rfl⟩ ?_
            refine o1 rfl (det_move rfl) rfl rfl ⟨_, rfl, rfl⟩ ?_
            refine o1 rfl (det_not rfl) rfl rfl ⟨_, rfl, rfl⟩ ?_
            refine o1 rfl (det_pickT rfl rfl) rfl rfl ⟨_, rfl, rfl⟩ ?_
            refine o1 rfl (det_pickF rfl rfl) rfl rfl trivial ?_
            refine be rfl ?_
            refine k_then ?_
            refine t_condP not_iff_false rfl (fun hb => ?_) (fun hb => ?_)
            ·
              refine t_seq ?_
              refine b0 ?_
              refine o1 rfl (det_assign rfl) rfl rfl trivial ?_
              refine o1 rfl (det_assign rfl) rfl rfl trivial ?_
              refine o1 rfl (det_assign rfl) rfl rfl trivial ?_
              refine be rfl ?_
              refine k_then ?_
              refine t_ret (k_thenR (?_))
              refine ret_tmp3 rfl rfl rfl rfl rfl (fun w1 hs => ?_)
              rw [hEE]
              unfold preR
              rw [hKK]
              first
              | exact ⟨by rw [show preB l hs0 o b t = true by unfold preB; rw [hEE, hKK, hm6, hm7]; grind]; rfl, hs.keep⟩
              | exact ⟨by rw [show preB l hs0 o b t = false by unfold preB; rw [hEE, hKK, hm6, hm7]; grind]; rfl, hs.keep⟩
            ·
              refine t_skip ?_
              refine k_then ?_
              refine t_seq ?_
              refine b0 ?_
              refine o1 rfl (det_move rfl) rfl rfl trivial ?_
              refine o1 rfl (det_move rfl) rfl rfl trivial ?_
              refine o1 rfl (det_move rfl) rfl rfl trivial ?_
              first | (refine o1 rfl (det_subI rfl rfl ?_) rfl rfl trivial ?_; (· omega)) | refine o1 rfl (det_sub rfl rfl) rfl rfl trivial ?_
              first | (refine o1 rfl (det_addI rfl rfl ?_) rfl rfl trivial ?_; (· omega)) | refine o1 rfl (det_add rfl rfl) rfl rfl trivial ?_
              refine o1 rfl (det_assign rfl) rfl rfl trivial ?_
              refine o1 rfl (det_assign rfl) rfl rfl trivial ?_
              refine o1 rfl (det_assign rfl) rfl rfl trivial ?_
              refine be rfl ?_
              refine k_then ?_
              refine t_ret ?_
              refine ret_tmp3 rfl rfl rfl rfl rfl (fun w1 hs => ?_)
              rw [hEE]
              unfold preR
              rw [hKK]
              first
              | exact ⟨by rw [show preB l hs0 o b t = true by unfold preB; rw [hEE, hKK, hm6, hm7]; grind]; rfl, hs.keep⟩
              | exact ⟨by rw [show preB l hs0 o b t = false by unfold preB; rw [hEE, hKK, hm6, hm7]; grind]; rfl, hs.keep⟩
        ·
          refine sn rfl rfl rfl ⟨_, rfl, .inl rfl⟩ ?_
          refine sn rfl rfl rfl ⟨_, rfl, .inl rfl⟩ ?_
          refine sn rfl rfl rfl ⟨_, rfl, .inl rfl⟩ ?_
          refine sn rfl rfl rfl ⟨_, rfl, .inl rfl⟩ ?_
          refine sn rfl rfl rfl ⟨_, rfl, .inl rfl⟩ ?_
          refine sn rfl rfl rfl ⟨_, rfl, .inl rfl⟩ ?_
          refine s1 rfl (det_pickF rfl rfl) rfl rfl trivial rfl ?_
          refine s1 rfl (det_assign rfl) rfl rfl trivial rfl ?_
          refine sg_nil ?_
          refine be rfl ?_
          refine k_then ?_
          refine t_seq ?_
          refine t_seq ?_
          refine b0 ?_
          refine o1 rfl (det_move rfl) rfl rfl trivial ?_
          refine o1 rfl (det_move rfl) rfl rfl trivial ?_
          first | (refine o1 rfl (det_subI rfl rfl ?_) rfl rfl trivial ?_; (· omega)) | refine o1 rfl (det_sub rfl rfl) rfl rfl trivial ?_
          refine o1 rfl (det_lss rfl rfl) rfl rfl trivial ?_
          refine o2P decide_eq_true_iff rfl (det_move rfl) rfl rfl trivial (fun hb => ?_) (fun hb => ?_)
          ·
            refine on rfl rfl rfl ⟨_, rfl, .inl rfl⟩ ?_
            refine on rfl rfl rfl ⟨_, rfl, .inl rfl⟩ ?_
            refine on rfl rfl rfl ⟨_, rfl, .inl rfl⟩ ?_
            refine on rfl rfl rfl ⟨_, rfl, .inr rfl⟩ ?_
            refine on rfl rfl rfl ⟨_, rfl, .inr rfl⟩ ?_
            refine on rfl rfl rfl ⟨_, rfl, .inl rfl⟩ ?_
            refine o1 rfl (det_pickT rfl rfl) rfl rfl trivial ?_
            refine be rfl ?_
            refine k_then ?_
            refine t_condT rfl ?_
            refine t_seq ?_
            refine b0 ?_
            refine o1 rfl (det_assign rfl) rfl rfl trivial ?_
            refine o1 rfl (det_assign rfl) rfl rfl trivial ?_
            refine o1 rfl (det_assign rfl) rfl rfl trivial ?_
            refine be rfl ?_
            refine k_then ?_
            refine t_ret (k_thenR (?_))
            refine ret_tmp3 rfl rfl rfl rfl rfl (fun w1 hs => ?_)
            rw [hEE]
            unfold preR
            rw [hKK]
            first
            | exact ⟨by rw [show preB l hs0 o b t = true by unfold preB; rw [hEE, hKK, hm6, hm7]; grind]; rfl, hs.keep⟩
            | exact ⟨by rw [show preB l hs0 o b t = false by unfold preB; rw [hEE, hKK, hm6, hm7]; grind]; rfl, hs.keep⟩
          ·
            refine o1 rfl (det_move rfl) rfl rfl ⟨_, rfl, rfl⟩ ?_
            refine o1 rfl (det_not rfl) rfl rfl ⟨_, rfl, rfl⟩ ?_
            refine o1 rfl (det_move rfl) rfl rfl ⟨_, rfl, rfl⟩ ?_
            refine o1 rfl (det_move rfl) rfl rfl ⟨_, rfl, rfl⟩ ?_
            refine o1 rfl (det_not rfl) rfl rfl ⟨_, rfl, rfl⟩ ?_
            refine o1 rfl (det_pickT rfl rfl) rfl rfl ⟨_, rfl, rfl⟩ ?_
            refine o1 rfl (det_pickF rfl rfl) rfl rfl trivial ?_
            refine be rfl ?_
            refine k_then ?_
            refine t_condT rfl ?_
            refine t_seq ?_
            refine b0 ?_
            refine o1 rfl (det_assign rfl) rfl rfl trivial ?_
            refine o1 rfl (det_assign rfl) rfl rfl trivial ?_
            refine o1 rfl (det_assign rfl) rfl rfl trivial ?_
            refine be rfl ?_
            refine k_then ?_
            refine t_ret (k_thenR (?_))
            refine ret_tmp3 rfl rfl rfl rfl rfl (fun w1 hs => ?_)
            rw [hEE]
            unfold preR
            rw [hKK]
            first
            | exact ⟨by rw [show preB l hs0 o b t = true by unfold preB; rw [hEE, hKK, hm6, hm7]; grind]; rfl, hs.keep⟩
            | exact ⟨by rw [show preB l hs0 o b t = false by unfold preB; rw [hEE, hKK, hm6, hm7]; grind]; rfl, hs.keep⟩
    ·
      have hKK : preK l b t = ((t - b) / l.per) := by rw [hKd]; omega
      have hEE : preE l b t = b + (((t - b) / l.per) + 24) * l.per := by unfold preE; rw [hKK]
      rw [hEE] at hebd hm6 hm7
      rw [hKK] at hmk
      refine t_skip ?_
      refine k_then ?_
      refine t_seq ?_
      refine b0 ?_
      refine o1 rfl (det_move rfl) rfl rfl trivial ?_
      refine o1 rfl (det_move rfl) rfl rfl trivial ?_
      first | (refine o1 rfl (det_addI rfl rfl ?_) rfl rfl trivial ?_; (· omega)) | refine o1 rfl (det_add rfl rfl) rfl rfl trivial ?_
      refine o1 rfl (det_fieldAddr fld26_1 rfl) rfl rfl trivial ?_
      refine o1 rfl (det_load1 t1_3 rfl rfl (.head _) rfl) rfl rfl trivial ?_
      first | (refine o1 rfl (det_mulI rfl rfl ?_) rfl rfl trivial ?_; (· omega)) | refine o1 rfl (det_mul rfl rfl) rfl rfl trivial ?_
      first | (refine o1 rfl (det_addI rfl rfl ?_) rfl rfl trivial ?_; (· omega)) | refine o1 rfl (det_add rfl rfl) rfl rfl trivial ?_
      refine o1 rfl (det_assign rfl) rfl rfl trivial ?_
      refine be rfl ?_
      refine k_then ?_
      refine t_seq ?_
      refine bD mixed ?_
      refine r_seg 14 14 [] [0, 1, 2, 3, 4, 5, 6, 7, 8, 9, 10, 11, 12, 13] (by kernel_rfl) ?_
      refine s1 rfl (det_move rfl) rfl rfl trivial rfl ?_
      first | (refine s1 rfl (det_indexAddr sl27 rfl rfl ?_) rfl rfl trivial rfl ?_; (· (first | decide | omega)))
      refine s1 rfl (det_loadKN tN57 rfl (ptv_len hs0[6]) (hP.cells (i := 6) (k := 6) rfl h6l (ptv_len _))) rfl rfl trivial rfl ?_
      refine s1 rfl (det_call hb54 rfl rfl (fun w1 hs => none_ok hs.know)) rfl rfl trivial rfl ?_
      refine s1 rfl (det_not rfl) rfl rfl trivial rfl ?_
      refine s2P not_iff_false rfl (det_move rfl) rfl rfl trivial rfl (fun hb => ?_) (fun hb => ?_)
      ·
        refine s1 rfl (det_loadN tN26 rfl rfl (.head _) rfl) rfl rfl ⟨_, rfl, rfl⟩ rfl ?_
        refine s1 rfl (det_move rfl) rfl rfl ⟨_, rfl, rfl⟩ rfl ?_
        first | (refine s1 rfl (det_indexAddr sl27 rfl rfl ?_) rfl rfl ⟨_, rfl, rfl⟩ rfl ?_; (· (first | decide | omega)))
        refine s1 rfl (det_loadKN tN57 rfl (ptv_len hs0[6]) (hP.cells (i := 6) (k := 6) rfl h6l (ptv_len _))) rfl rfl ⟨_, rfl, rfl⟩ rfl ?_
        refine s1 rfl (det_move rfl) rfl rfl ⟨_, rfl, rfl⟩ rfl ?_
        refine s1 rfl (det_call hb61 rfl rfl (fun w1 hs => rfits_ok hs.know hl (by decide) hper hsh hl6 hebd)) rfl rfl ⟨_, rfl, rfl⟩ rfl ?_
        refine s1 rfl (det_pickT rfl rfl) rfl rfl trivial rfl ?_
        refine s1 rfl (det_assign rfl) rfl rfl trivial rfl ?_
        refine sg_nil ?_
        refine be rfl ?_
        refine k_then ?_
        refine t_seq ?_
        refine bD mixed ?_
        refine r_seg 14 14 [] [0, 1, 2, 3, 4, 5, 6, 7, 8, 9, 10, 11, 12, 13] (by kernel_rfl) ?_
        refine s1 rfl (det_move rfl) rfl rfl trivial rfl ?_
        first | (refine s1 rfl (det_indexAddr sl27 rfl rfl ?_) rfl rfl trivial rfl ?_; (· (first | decide | omega)))
        refine s1 rfl (det_loadKN tN57 rfl (ptv_len hs0[7]) (hP.cells (i := 7) (k := 7) rfl h7l (ptv_len _))) rfl rfl trivial rfl ?_
        refine s1 rfl (det_call hb54 rfl rfl (fun w1 hs => none_ok hs.know)) rfl rfl trivial rfl ?_
        refine s1 rfl (det_not rfl) rfl rfl trivial rfl ?_
        refine s2P not_iff_false rfl (det_move rfl) rfl rfl trivial rfl (fun hb => ?_) (fun hb => ?_)
        ·
          refine s1 rfl (det_loadN tN26 rfl rfl (.head _) rfl) rfl rfl ⟨_, rfl, rfl⟩ rfl ?_
          refine s1 rfl (det_move rfl) rfl rfl ⟨_, rfl, rfl⟩ rfl ?_
          first | (refine s1 rfl (det_indexAddr sl27 rfl rfl ?_) rfl rfl ⟨_, rfl, rfl⟩ rfl ?_; (· (first | decide | omega)))
          refine s1 rfl (det_loadKN tN57 rfl (ptv_len hs0[7]) (hP.cells (i := 7) (k := 7) rfl h7l (ptv_len _))) rfl rfl ⟨_, rfl, rfl⟩ rfl ?_
          refine s1 rfl (det_move rfl) rfl rfl ⟨_, rfl, rfl⟩ rfl ?_
          refine s1 rfl (det_call hb61 rfl rfl (fun w1 hs => rfits_ok hs.know hl (by decide) hper hsh hl7 hebd)) rfl rfl ⟨_, rfl, rfl⟩ rfl ?_
          refine s1 rfl (det_pickT rfl rfl) rfl rfl trivial rfl ?_
          refine s1 rfl (det_assign rfl) rfl rfl trivial rfl ?_
          refine sg_nil ?_
          refine be rfl ?_
          refine k_then ?_
          refine t_seq ?_
          refine t_seq ?_
          refine b0 ?_
          refine o1 rfl (det_move rfl) rfl rfl trivial ?_
          refine o1 rfl (det_move rfl) rfl rfl trivial ?_
          first | (refine o1 rfl (det_subI rfl rfl ?_) rfl rfl trivial ?_; (· omega)) | refine o1 rfl (det_sub rfl rfl) rfl rfl trivial ?_
          refine o1 rfl (det_lss rfl rfl) rfl rfl trivial ?_
          refine o2P decide_eq_true_iff rfl (det_move rfl) rfl rfl trivial (fun hb => ?_) (fun hb => ?_)
          ·
            refine on rfl rfl rfl ⟨_, rfl, .inl rfl⟩ ?_
            refine on rfl rfl rfl ⟨_, rfl, .inl rfl⟩ ?_
            refine on rfl rfl rfl ⟨_, rfl, .inl rfl⟩ ?_
            refine on rfl rfl rfl ⟨_, rfl, .inr rfl⟩ ?_
            refine on rfl rfl rfl ⟨_, rfl, .inr rfl⟩ ?_
            refine on rfl rfl rfl ⟨_, rfl, .inl rfl⟩ ?_
            refine o1 rfl (det_pickT rfl rfl) rfl rfl trivial ?_
            refine be rfl ?_
            refine k_then ?_
            refine t_condT rfl ?_
            refine t_seq ?_
            refine b0 ?_
            refine o1 rfl (det_assign rfl) rfl rfl trivial ?_
            refine o1 rfl (det_assign rfl) rfl rfl trivial ?_
            refine o1 rfl (det_assign rfl) rfl rfl trivial ?_
            refine be rfl ?_
            refine k_then ?_
            refine t_ret (k_thenR (?_))
            refine ret_tmp3 rfl rfl rfl rfl rfl (fun w1 hs => ?_)
            rw [hEE]
            unfold preR
            rw [hKK]
            first
            | exact ⟨by rw [show preB l hs0 o b t = true by unfold preB; rw [hEE, hKK, hm6, hm7]; grind]; rfl, hs.keep⟩
            | exact ⟨by rw [show preB l hs0 o b t = false by unfold preB; rw [hEE, hKK, hm6, hm7]; grind]; rfl, hs.keep⟩
          ·
            refine o1 rfl (det_move rfl) rfl rfl ⟨_, rfl, rfl⟩ ?_
            refine o1 rfl (det_not rfl) rfl rfl ⟨_, rfl, rfl⟩ ?_
            refine o2P not_iff_false rfl (det_move rfl) rfl rfl ⟨_, rfl, rfl⟩ (fun hb => ?_) (fun hb => ?_)
            ·
              refine o1 rfl (det_move rfl) rfl rfl ⟨_, rfl, rfl⟩ ?_
              refine o1 rfl (det_not rfl) rfl rfl ⟨_, rfl, rfl⟩ ?_
              refine o1 rfl (det_pickT rfl rfl) rfl rfl ⟨_, rfl, rfl⟩ ?_
              refine o1 rfl (det_pickF rfl rfl) rfl rfl trivial ?_
              refine be rfl ?_
              refine k_then ?_
              refine t_condP not_iff_false rfl (fun hb => ?_) (fun hb => ?_)
              ·
                refine t_seq ?_
                refine b0 ?_
                refine o1 rfl (det_assign rfl) rfl rfl trivial ?_
                refine o1 rfl (det_assign rfl) rfl rfl trivial ?_
                refine o1 rfl (det_assign rfl) rfl rfl trivial ?_
                refine be rfl ?_
                refine k_then ?_
                refine t_ret (k_thenR (?_))
                refine ret_tmp3 rfl rfl rfl rfl rfl (fun w1 hs => ?_)
                rw [hEE]
                unfold preR
                rw [hKK]
                first
                | exact ⟨by rw [show preB l hs0 o b t = true by unfold preB; rw [hEE, hKK, hm6, hm7]; grind]; rfl, hs.keep⟩
                | exact ⟨by rw [show preB l hs0 o b t = false by unfold preB; rw [hEE, hKK, hm6, hm7]; grind]; rfl, hs.keep⟩
              ·
                refine t_skip ?_
                refine k_then ?_
                refine t_seq ?_
                refine b0 ?_
                refine o1 rfl (det_move rfl) rfl rfl trivial ?_
                refine o1 rfl (det_move rfl) rfl rfl trivial ?_
                refine o1 rfl (det_move rfl) rfl rfl trivial ?_
                first | (refine o1 rfl (det_subI rfl rfl ?_) rfl rfl trivial ?_; (· omega)) | refine o1 rfl (det_sub rfl rfl) rfl rfl trivial ?_
                first | (refine o1 rfl (det_addI rfl rfl ?_) rfl rfl trivial ?_; (· omega)) | refine o1 rfl (det_add rfl rfl) rfl rfl trivial ?_
                refine o1 rfl (det_assign rfl) rfl rfl trivial ?_
                refine o1 rfl (det_assign rfl) rfl rfl trivial ?_
                refine o1 rfl (det_assign rfl) rfl rfl trivial ?_
                refine be rfl ?_
                refine k_then ?_
                refine t_ret ?_
                refine ret_tmp3 rfl rfl rfl rfl rfl (fun w1 hs => ?_)
                rw [hEE]
                unfold preR
                rw [hKK]
                first
                | exact ⟨by rw [show preB l hs0 o b t = true by unfold preB; rw [hEE, hKK, hm6, hm7]; grind]; rfl, hs.keep⟩
                | exact ⟨by rw [show preB l hs0 o b t = false by unfold preB; rw [hEE, hKK, hm6, hm7]; grind]; rfl, hs.keep⟩
            ·
              refine on rfl rfl rfl ⟨_, rfl, .inl rfl⟩ ?_
              refine on rfl rfl rfl ⟨_, rfl, .inl rfl⟩ ?_
              refine o1 rfl (det_pickF rfl rfl) rfl rfl ⟨_, rfl, rfl⟩ ?_
              refine o1 rfl (det_pickF rfl rfl) rfl rfl trivial ?_
              refine be rfl ?_
              refine k_then ?_
              refine t_condF rfl ?_
              refine t_skip ?_
              refine k_then ?_
              refine t_seq ?_
              refine b0 ?_
              refine o1 rfl (det_move rfl) rfl rfl trivial ?_
              refine o1 rfl (det_move rfl) rfl rfl trivial ?_
              refine o1 rfl (det_move rfl) rfl rfl trivial ?_
              first | (refine o1 rfl (det_subI rfl rfl ?_) rfl rfl trivial ?_; (· omega)) | refine o1 rfl (det_sub rfl rfl) rfl rfl trivial ?_
              first | (refine o1 rfl (det_addI rfl rfl ?_) rfl rfl trivial ?_; (· omega)) | refine o1 rfl (det_add rfl rfl) rfl rfl trivial ?_
              refine o1 rfl (det_assign rfl) rfl rfl trivial ?_
              refine o1 rfl (det_assign rfl) rfl rfl trivial ?_
              refine o1 rfl (det_assign rfl) rfl rfl trivial ?_
              refine be rfl ?_
              refine k_then ?_
              refine t_ret ?_
              refine ret_tmp3 rfl rfl rfl rfl rfl (fun w1 hs => ?_)
              rw [hEE]
              unfold preR
              rw [hKK]
              first
              | exact ⟨by rw [show preB l hs0 o b t = true by unfold preB; rw [hEE, hKK, hm6, hm7]; grind]; rfl, hs.keep⟩
              | exact ⟨by rw [show preB l hs0 o b t = false by unfold preB; rw [hEE, hKK, hm6, hm7]; grind]; rfl, hs.keep⟩
        ·
          refine sn rfl rfl rfl ⟨_, rfl, .inl rfl⟩ ?_
          refine sn rfl rfl rfl ⟨_, rfl, .inl rfl⟩ ?_
          refine sn rfl rfl rfl ⟨_, rfl, .inl rfl⟩ ?_
          refine sn rfl rfl rfl ⟨_, rfl, .inl rfl⟩ ?_
          refine sn rfl rfl rfl ⟨_, rfl, .inl rfl⟩ ?_
          refine sn rfl rfl rfl ⟨_, rfl, .inl rfl⟩ ?_
          refine s1 rfl (det_pickF rfl rfl) rfl rfl trivial rfl ?_
          refine s1 rfl (det_assign rfl) rfl rfl trivial rfl ?_
          refine sg_nil ?_
          refine be rfl ?_
          refine k_then ?_
          refine t_seq ?_
          refine t_seq ?_
          refine b0 ?_
          refine o1 rfl (det_move rfl) rfl rfl trivial ?_
          refine o1 rfl (det_move rfl) rfl rfl trivial ?_
          first | (refine o1 rfl (det_subI rfl rfl ?_) rfl rfl trivial ?_; (· omega)) | refine o1 rfl (det_sub rfl rfl) rfl rfl trivial ?_
          refine o1 rfl (det_lss rfl rfl) rfl rfl trivial ?_
          refine o2P decide_eq_true_iff rfl (det_move rfl) rfl rfl trivial (fun hb => ?_) (fun hb => ?_)
          ·
            refine on rfl rfl rfl ⟨_, rfl, .inl rfl⟩ ?_
            refine on rfl rfl rfl ⟨_, rfl, .inl rfl⟩ ?_
            refine on rfl rfl rfl ⟨_, rfl, .inl rfl⟩ ?_
            refine on rfl rfl rfl ⟨_, rfl, .inr rfl⟩ ?_
            refine on rfl rfl rfl ⟨_, rfl, .inr rfl⟩ ?_
            refine on rfl rfl rfl ⟨_, rfl, .inl rfl⟩ ?_
            refine o1 rfl (det_pickT rfl rfl) rfl rfl trivial ?_
            refine be rfl ?_
            refine k_then ?_
            refine t_condT rfl ?_
            refine t_seq ?_
            refine b0 ?_
            refine o1 rfl (det_assign rfl) rfl rfl trivial ?_
            refine o1 rfl (det_assign rfl) rfl rfl trivial ?_
            refine o1 rfl (det_assign rfl) rfl rfl trivial ?_
            refine be rfl ?_
            refine k_then ?_
            refine t_ret (k_thenR (?_))
            refine ret_tmp3 rfl rfl rfl rfl rfl (fun w1 hs => ?_)
            rw [hEE]
            unfold preR
            rw [hKK]
            first
            | exact ⟨by rw [show preB l hs0 o b t = true by unfold preB; rw [hEE, hKK, hm6, hm7]; grind]; rfl, hs.keep⟩
            | exact ⟨by rw [show preB l hs0 o b t = false by unfold preB; rw [hEE, hKK, hm6, hm7]; grind]; rfl, hs.keep⟩
          ·
            refine o1 rfl (det_move rfl) rfl rfl ⟨_, rfl, rfl⟩ ?_
            refine o1 rfl (det_not rfl) rfl rfl ⟨_, rfl, rfl⟩ ?_
            refine o2P not_iff_false rfl (det_move rfl) rfl rfl ⟨_, rfl, rfl⟩ (fun hb => ?_) (fun hb => ?_)
            ·
              refine o1 rfl (det_move rfl) rfl rfl ⟨_, rfl, rfl⟩ ?_
              refine o1 rfl (det_not rfl) rfl rfl ⟨_, rfl, rfl⟩ ?_
              refine o1 rfl (det_pickT rfl rfl) rfl rfl ⟨_, rfl, rfl⟩ ?_
              refine o1 rfl (det_pickF rfl rfl) rfl rfl trivial ?_
              refine be rfl ?_
              refine k_then ?_
              refine t_condT rfl ?_
              refine t_seq ?_
              refine b0 ?_
              refine o1 rfl (det_assign rfl) rfl rfl trivial ?_
              refine o1 rfl (det_assign rfl) rfl rfl trivial ?_
              refine o1 rfl (det_assign rfl) rfl rfl trivial ?_
              refine be rfl ?_
              refine k_then ?_
              refine t_ret (k_thenR (?_))
              refine ret_tmp3 rfl rfl rfl rfl rfl (fun w1 hs => ?_)
              rw [hEE]
              unfold preR
              rw [hKK]
              first
              | exact ⟨by rw [show preB l hs0 o b t = true by unfold preB; rw [hEE, hKK, hm6, hm7]; grind]; rfl, hs.keep⟩
              | exact ⟨by rw [show preB l hs0 o b t = false by unfold preB; rw [hEE, hKK, hm6, hm7]; grind]; rfl, hs.keep⟩
            ·
              refine on rfl rfl rfl ⟨_, rfl, .inl rfl⟩ ?_
              refine on rfl rfl rfl ⟨_, rfl, .inl rfl⟩ ?_
              refine o1 rfl (det_pickF rfl rfl) rfl rfl ⟨_, rfl, rfl⟩ ?_
              refine o1 rfl (det_pickF rfl rfl) rfl rfl trivial ?_
              refine be rfl ?_
              refine k_then ?_
              refine t_condF rfl ?_
              refine t_skip ?_
              refine k_then ?_
              refine t_seq ?_
              refine b0 ?_
              refine o1 rfl (det_move rfl) rfl rfl trivial ?_
              refine o1 rfl (det_move rfl) rfl rfl trivial ?_
              refine o1 rfl (det_move rfl) rfl rfl trivial ?_
              first | (refine o1 rfl (det_subI rfl rfl ?_) rfl rfl trivial ?_; (· omega)) | refine o1 rfl (det_sub rfl rfl) rfl rfl trivial ?_
              first | (refine o1 rfl (det_addI rfl rfl ?_) rfl rfl trivial ?_; (· omega)) | refine o1 rfl (det_add rfl rfl) rfl rfl trivial ?_
              refine o1 rfl (det_assign rfl) rfl rfl trivial ?_
              refine o1 rfl (det_assign rfl) rfl rfl trivial ?_
              refine o1 rfl (det_assign rfl) rfl rfl trivial ?_
              refine be rfl ?_
              refine k_then ?_
              refine t_ret ?_
              refine ret_tmp3 rfl rfl rfl rfl rfl (fun w1 hs => ?_)
              rw [hEE]
              unfold preR
              rw [hKK]
              first
              | exact ⟨by rw [show preB l hs0 o b t = true by unfold preB; rw [hEE, hKK, hm6, hm7]; grind]; rfl, hs.keep⟩
              | exact ⟨by rw [show preB l hs0 o b t = false by unfold preB; rw [hEE, hKK, hm6, hm7]; grind]; rfl, hs.keep⟩
      ·
        refine sn rfl rfl rfl ⟨_, rfl, .inl rfl⟩ ?_
        refine sn rfl rfl rfl ⟨_, rfl, .inl rfl⟩ ?_
        refine sn rfl rfl rfl ⟨_, rfl, .inl rfl⟩ ?_
        refine sn rfl rfl rfl ⟨_, rfl, .inl rfl⟩ ?_
        refine sn rfl rfl rfl ⟨_, rfl, .inl rfl⟩ ?_
        refine sn rfl rfl rfl ⟨_, rfl, .inl rfl⟩ ?_
        refine s1 rfl (det_pickF rfl rfl) rfl rfl trivial rfl ?_
        refine s1 rfl (det_assign rfl) rfl rfl trivial rfl ?_
        refine sg_nil ?_
        refine be rfl ?_
        refine k_then ?_
        refine t_seq ?_
        refine bD mixed ?_
        refine r_seg 14 14 [] [0, 1, 2, 3, 4, 5, 6, 7, 8, 9, 10, 11, 12, 13] (by kernel_rfl) ?_
        refine s1 rfl (det_move rfl) rfl rfl trivial rfl ?_
        first | (refine s1 rfl (det_indexAddr sl27 rfl rfl ?_) rfl rfl trivial rfl ?_; (· (first | decide | omega)))
        refine s1 rfl (det_loadKN tN57 rfl (ptv_len hs0[7]) (hP.cells (i := 7) (k := 7) rfl h7l (ptv_len _))) rfl rfl trivial rfl ?_
        refine s1 rfl (det_call hb54 rfl rfl (fun w1 hs => none_ok hs.know)) rfl rfl trivial rfl ?_
        refine s1 rfl (det_not rfl) rfl rfl trivial rfl ?_
        refine s2P not_iff_false rfl (det_move rfl) rfl rfl trivial rfl (fun hb => ?_) (fun hb => ?_)
        ·
          refine s1 rfl (det_loadN tN26 rfl rfl (.head _) rfl) rfl rfl ⟨_, rfl, rfl⟩ rfl ?_
          refine s1 rfl (det_move rfl) rfl rfl ⟨_, rfl, rfl⟩ rfl ?_
          first | (refine s1 rfl (det_indexAddr sl27 rfl rfl ?_) rfl rfl ⟨_, rfl, rfl⟩ rfl ?_; (· (first | decide | omega)))
          refine s1 rfl (det_loadKN tN57 rfl (ptv_len hs0[7]) (hP.cells (i := 7) (k := 7) rfl h7l (ptv_len _))) rfl rfl ⟨_, rfl, rfl⟩ rfl ?_
          refine s1 rfl (det_move rfl) rfl rfl ⟨_, rfl, rfl⟩ rfl ?_
          refine s1 rfl (det_call hb61 rfl rfl (fun w1 hs => rfits_ok hs.know hl (by decide) hper hsh hl7 hebd)) rfl rfl ⟨_, rfl, rfl⟩ rfl ?_
          refine s1 rfl (det_pickT rfl rfl) rfl rfl trivial rfl ?_
          refine s1 rfl (det_assign rfl) rfl rfl trivial rfl ?_
          refine sg_nil ?_
          refine be rfl ?_
          refine k_then ?_
          refine t_seq ?_
          refine t_seq ?_
          refine b0 ?_
          refine o1 rfl (det_move rfl) rfl rfl trivial ?_
          refine o1 rfl (det_move rfl) rfl rfl trivial ?_
          first | (refine o1 rfl (det_subI rfl rfl ?_) rfl rfl trivial ?_; (· omega)) | refine o1 rfl (det_sub rfl rfl) rfl rfl trivial ?_
          refine o1 rfl (det_lss rfl rfl) rfl rfl trivial ?_
          refine o2P decide_eq_true_iff rfl (det_move rfl) rfl rfl trivial (fun hb => ?_) (fun hb => ?_)
          ·
            refine on rfl rfl rfl ⟨_, rfl, .inl rfl⟩ ?_
            refine on rfl rfl rfl ⟨_, rfl, .inl rfl⟩ ?_
            refine on rfl rfl rfl ⟨_, rfl, .inl rfl⟩ ?_
            refine on rfl rfl rfl ⟨_, rfl, .inr rfl⟩ ?_
            refine on rfl rfl rfl ⟨_, rfl, .inr rfl⟩ ?_
            refine on rfl rfl rfl ⟨_, rfl, .inl rfl⟩ ?_
            refine o1 rfl (det_pickT rfl rfl) rfl rfl trivial ?_
            refine be rfl ?_
            refine k_then ?_
            refine t_condT rfl ?_
            refine t_seq ?_
            refine b0 ?_
            refine o1 rfl (det_assign rfl) rfl rfl trivial ?_
            refine o1 rfl (det_assign rfl) rfl rfl trivial ?_
            refine o1 rfl (det_assign rfl) rfl rfl trivial ?_
            refine be rfl ?_
            refine k_then ?_
            refine t_ret (k_thenR (?_))
            refine ret_tmp3 rfl rfl rfl rfl rfl (fun w1 hs => ?_)
            rw [hEE]
            unfold preR
            rw [hKK]
            first
            | exact ⟨by rw [show preB l hs0 o b t = true by unfold preB; rw [hEE, hKK, hm6, hm7]; grind]; rfl, hs.keep⟩
            | exact ⟨by rw [show preB l hs0 o b t = false by unfold preB; rw [hEE, hKK, hm6, hm7]; grind]; rfl, hs.keep⟩
          ·
            refine o1 rfl (det_move rfl) rfl rfl ⟨_, rfl, rfl⟩ ?_
            refine o1 rfl (det_not rfl) rfl rfl ⟨_, rfl, rfl⟩ ?_
            refine o1 rfl (det_move rfl) rfl rfl ⟨_, rfl, rfl⟩ ?_
            refine o1 rfl (det_move rfl) rfl rfl ⟨_, rfl, rfl⟩ ?_
            refine o1 rfl (det_not rfl) rfl rfl ⟨_, rfl, rfl⟩ ?_
            refine o1 rfl (det_pickT rfl rfl) rfl rfl ⟨_, rfl, rfl⟩ ?_
            refine o1 rfl (det_pickF rfl rfl) rfl rfl trivial ?_
            refine be rfl ?_
            refine k_then ?_
            refine t_condP not_iff_false rfl (fun hb => ?_) (fun hb => ?_)
            ·
              refine t_seq ?_
              refine b0 ?_
              refine o1 rfl (det_assign rfl) rfl rfl trivial ?_
              refine o1 rfl (det_assign rfl) rfl rfl trivial ?_
              refine o1 rfl (det_assign rfl) rfl rfl trivial ?_
              refine be rfl ?_
              refine k_then ?_
              refine t_ret (k_thenR (?_))
              refine ret_tmp3 rfl rfl rfl rfl rfl (fun w1 hs => ?_)
              rw [hEE]
              unfold preR
              rw [hKK]
              first
              | exact ⟨by rw [show preB l hs0 o b t = true by unfold preB; rw [hEE, hKK, hm6, hm7]; grind]; rfl, hs.keep⟩
              | exact ⟨by rw [show preB l hs0 o b t = false by unfold preB; rw [hEE, hKK, hm6, hm7]; grind]; rfl, hs.keep⟩
            ·
              refine t_skip ?_
              refine k_then ?_
              refine t_seq ?_
              refine b0 ?_
              refine o1 rfl (det_move rfl) rfl rfl trivial ?_
              refine o1 rfl (det_move rfl) rfl rfl trivial ?_
              refine o1 rfl (det_move rfl) rfl rfl trivial ?_
              first | (refine o1 rfl (det_subI rfl rfl ?_) rfl rfl trivial ?_; (· omega)) | refine o1 rfl (det_sub rfl rfl) rfl rfl trivial ?_
              first | (refine o1 rfl (det_addI rfl rfl ?_) rfl rfl trivial ?_; (· omega)) | refine o1 rfl (det_add rfl rfl) rfl rfl trivial ?_
              refine o1 rfl (det_assign rfl) rfl rfl trivial ?_
              refine o1 rfl (det_assign rfl) rfl rfl trivial ?_
              refine o1 rfl (det_assign rfl) rfl rfl trivial ?_
              refine be rfl ?_
              refine k_then ?_
              refine t_ret ?_
              refine ret_tmp3 rfl rfl rfl rfl rfl (fun w1 hs => ?_)
              rw [hEE]
              unfold preR
              rw [hKK]
              first
              | exact ⟨by rw [show preB l hs0 o b t = true by unfold preB; rw [hEE, hKK, hm6, hm7]; grind]; rfl, hs.keep⟩
              | exact ⟨by rw [show preB l hs0 o b t = false by unfold preB; rw [hEE, hKK, hm6, hm7]; grind]; rfl, hs.keep⟩
        ·
          refine sn rfl rfl rfl ⟨_, rfl, .inl rfl⟩ ?_
          refine sn rfl rfl rfl ⟨_, rfl, .inl rfl⟩ ?_
          refine sn rfl rfl rfl ⟨_, rfl, .inl rfl⟩ ?_
          refine sn rfl rfl rfl ⟨_, rfl, .inl rfl⟩ ?_
          refine sn rfl rfl rfl ⟨_, rfl, .inl rfl⟩ ?_
          refine sn rfl rfl rfl ⟨_, rfl, .inl rfl⟩ ?_
          refine s1 rfl (det_pickF rfl rfl) rfl rfl trivial rfl ?_
          refine s1 rfl (det_assign rfl) rfl rfl trivial rfl ?_
          refine sg_nil ?_
          refine be rfl ?_
          refine k_then ?_
          refine t_seq ?_
          refine t_seq ?_
          refine b0 ?_
          refine o1 rfl (det_move rfl) rfl rfl trivial ?_
          refine o1 rfl (det_move rfl) rfl rfl trivial ?_
          first | (refine o1 rfl (det_subI rfl rfl ?_) rfl rfl trivial ?_; (· omega)) | refine o1 rfl (det_sub rfl rfl) rfl rfl trivial ?_
          refine o1 rfl (det_lss rfl rfl) rfl rfl trivial ?_
          refine o2P decide_eq_true_iff rfl (det_move rfl) rfl rfl trivial (fun hb => ?_) (fun hb => ?_)
          ·
            refine on rfl rfl rfl ⟨_, rfl, .inl rfl⟩ ?_
            refine on rfl rfl rfl ⟨_, rfl, .inl rfl⟩ ?_
            refine on rfl rfl rfl ⟨_, rfl, .inl rfl⟩ ?_
            refine on rfl rfl rfl ⟨_, rfl, .inr rfl⟩ ?_
            refine on rfl rfl rfl ⟨_, rfl, .inr rfl⟩ ?_
            refine on rfl rfl rfl ⟨_, rfl, .inl rfl⟩ ?_
            refine o1 rfl (det_pickT rfl rfl) rfl rfl trivial ?_
            refine be rfl ?_
            refine k_then ?_
            refine t_condT rfl ?_
            refine t_seq ?_
            refine b0 ?_
            refine o1 rfl (det_assign rfl) rfl rfl trivial ?_
            refine o1 rfl (det_assign rfl) rfl rfl trivial ?_
            refine o1 rfl (det_assign rfl) rfl rfl trivial ?_
            refine be rfl ?_
            refine k_then ?_
            refine t_ret (k_thenR (?_))
            refine ret_tmp3 rfl rfl rfl rfl rfl (fun w1 hs => ?_)
            rw [hEE]
            unfold preR
            rw [hKK]
            first
            | exact ⟨by rw [show preB l hs0 o b t = true by unfold preB; rw [hEE, hKK, hm6, hm7]; grind]; rfl, hs.keep⟩
            | exact ⟨by rw [show preB l hs0 o b t = false by unfold preB; rw [hEE, hKK, hm6, hm7]; grind]; rfl, hs.keep⟩
          ·
            refine o1 rfl (det_move rfl) rfl rfl ⟨_, rfl, rfl⟩ ?_
            refine o1 rfl (det_not rfl) rfl rfl ⟨_, rfl, rfl⟩ ?_
            refine o1 rfl (det_move rfl) rfl rfl ⟨_, rfl, rfl⟩ ?_
            refine o1 rfl (det_move rfl) rfl rfl ⟨_, rfl, rfl⟩ ?_
            refine o1 rfl (det_not rfl) rfl rfl ⟨_, rfl, rfl⟩ ?_
            refine o1 rfl (det_pickT rfl rfl) rfl rfl ⟨_, rfl, rfl⟩ ?_
            refine o1 rfl (det_pickF rfl rfl) rfl rfl trivial ?_
            refine be rfl ?_
            refine k_then ?_
            refine t_condT rfl ?_
            refine t_seq ?_
            refine b0 ?_
            refine o1 rfl (det_assign rfl) rfl rfl trivial ?_
            refine o1 rfl (det_assign rfl) rfl rfl trivial ?_
            refine o1 rfl (det_assign rfl) rfl rfl trivial ?_
            refine be rfl ?_
            refine k_then ?_
            refine t_ret (k_thenR (?_))
            refine ret_tmp3 rfl rfl rfl rfl rfl (fun w1 hs => ?_)
            rw [hEE]
            unfold preR
            rw [hKK]
            first
            | exact ⟨by rw [show preB l hs0 o b t = true by unfold preB; rw [hEE, hKK, hm6, hm7]; grind]; rfl, hs.keep⟩
            | exact ⟨by rw [show preB l hs0 o b t = false by unfold preB; rw [hEE, hKK, hm6, hm7]; grind]; rfl, hs.keep⟩

end Go.Proofs.Cp
