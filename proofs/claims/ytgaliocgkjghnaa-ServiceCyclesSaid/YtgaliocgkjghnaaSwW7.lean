/-
  Walks through layers 27, 29 and 30 and their references.
-/
import Derived.Test.YtgaliocgkjghnaaSwW6
namespace Go.Proofs.Sw
open Go Go.Eng Go.Gt Go.Proofs.Gt
set_option maxRecDepth 4000

/-- Turn's closure. -/
theorem TurnC_on {w : World} {F : Know} (hF : ∀ a v, F a = some v → w.cell? a = some v) {A : Option Addr} {n cap : Nat} {es : Ents} {cyc : Int} (hE : EntK F A n es) {q9 q7 q2 : Nat} {rest : Own} {e1 e2 b x : Int} {k : Nat} (hlt : k < es.length) (haway : ∀ a v, F a = some v → a.block ∉ idsO ((q9, .cells [.int .i64 (x)].toArray 3 (0, 0)) :: (q7, .cells [.int .i64 ((k : Int))].toArray 3 (0, 0)) :: (q2, .cells [.slice A n cap, .int .i64 cyc].toArray 30 (0, 0)) :: rest)) (hnd : (idsO ((q9, .cells [.int .i64 (x)].toArray 3 (0, 0)) :: (q7, .cells [.int .i64 ((k : Int))].toArray 3 (0, 0)) :: (q2, .cells [.slice A n cap, .int .i64 cyc].toArray 30 (0, 0)) :: rest)).Nodup) (hown : ∀ y ∈ ((q9, .cells [.int .i64 (x)].toArray 3 (0, 0)) :: (q7, .cells [.int .i64 ((k : Int))].toArray 3 (0, 0)) :: (q2, .cells [.slice A n cap, .int .i64 cyc].toArray 30 (0, 0)) :: rest : Own), w.heap[y.1]? = some y.2) : CallsOn Try.prog 77 [.agg [.int .i64 e1, .int .i64 e2].toArray, .int .i64 b, .pointer (some ⟨q9, 0, none⟩), .pointer (some ⟨q2, 0, none⟩), .pointer (some ⟨q7, 0, none⟩)] w ((q9, .cells [.int .i64 (x)].toArray 3 (0, 0)) :: (q7, .cells [.int .i64 ((k : Int))].toArray 3 (0, 0)) :: (q2, .cells [.slice A n cap, .int .i64 cyc].toArray 30 (0, 0)) :: rest) (fun v cp1 => v = .bool (e1 == (es.getD k (0, 0)).1) ∧ cp1 = (q9, .cells [.int .i64 (b)].toArray 3 (0, 0)) :: (q7, .cells [.int .i64 ((k : Int))].toArray 3 (0, 0)) :: (q2, .cells [.slice A n cap, .int .i64 cyc].toArray 30 (0, 0)) :: rest) := by
  have hnl := hE.len
  obtain ⟨A, rfl⟩ := hE.some hlt
  refine fn_on (F := F) Try.func77 rfl Try.ntmps77 rfl hF haway hnd hown ?_
  refine t_seq ?_
  refine b0 ?_
  refine om1 rfl (new_boxN rfl) rfl rfl trivial (fun p5 => ?_)
  refine o1 rfl (det_assign rfl) rfl rfl trivial ?_
  refine be rfl ?_
  refine k_then ?_
  refine t_seq ?_
  refine b0 ?_
  refine o1 rfl (det_move rfl) rfl rfl trivial ?_
  refine st1 nofun rfl t1_3 rfl rfl rfl (.tail .head) rfl trivial rfl ?_
  refine be rfl ?_
  refine k_then ?_
  refine t_seq ?_
  refine bD mixed ?_
  refine r_seg 10 10 [] [0, 1, 2, 3, 4, 5, 6, 7, 8, 9] (by kernel_rfl) ?_
  refine s1 rfl (det_fieldAddr fld100_0 rfl) rfl rfl trivial rfl ?_
  refine s1 rfl (det_load1 t1_3 rfl rfl (.head _) rfl) rfl rfl trivial rfl ?_
  refine s1 rfl (det_fieldAddr fld30_0 rfl) rfl rfl trivial rfl ?_
  refine s1 rfl (det_load1 t1_28 rfl rfl (.tail _ (.tail _ (.tail _ (.head _)))) rfl) rfl rfl trivial rfl ?_
  refine s1 rfl (det_load1 t1_3 rfl rfl (.tail _ (.tail _ (.head _))) rfl) rfl rfl trivial rfl ?_
  first | (refine s1 rfl (det_indexAddr sl28 rfl rfl ?_) rfl rfl trivial rfl ?_; (· (first | decide | omega)))
  refine s1 rfl (det_fieldAddr fld100_0 rfl) rfl rfl trivial rfl ?_
  refine s1 rfl (det_loadK t1_3 rfl (by have := hE.cells hlt 0 (by omega); rw [add_add] at this ⊢; simpa using this)) rfl rfl trivial rfl ?_
  refine s1 rfl (det_eql rfl rfl) rfl rfl trivial rfl ?_
  refine s1 rfl (det_assign rfl) rfl rfl trivial rfl ?_
  refine sg_nil ?_
  refine be rfl ?_
  refine k_then ?_
  refine t_ret ?_
  refine ret_tmp rfl rfl rfl (fun w1 hs => ?_)
  refine end_on (bs := [_]) hs rfl ⟨?_, rfl⟩
  rw [List.getD_eq_getElem?_getD, List.getElem?_eq_getElem hlt]
  rfl

/-- gates.Turn. -/
theorem Turn_ok {w : World} {F : Know} (hF : ∀ a v, F a = some v → w.cell? a = some v) {A : Option Addr} {n cap : Nat} {es : Ents} {cyc : Int} (hE : EntK F A n es) (t : Int) : Pure Try.prog 46 [.agg [.slice A n cap, .int .i64 cyc].toArray, .int .i64 t] w (.tuple [.int .i64 (turnA es cyc t).1, .int .i64 (turnA es cyc t).2].toArray) := by
  refine fn_pure (F := F) Try.func46 rfl Try.ntmps46 rfl hF ?_
  refine t_seq ?_
  refine b0 ?_
  refine om1 rfl (new_boxN rfl) rfl rfl trivial (fun p2 => ?_)
  refine o1 rfl (det_assign rfl) rfl rfl trivial ?_
  refine o1 rfl (det_assign rfl) rfl rfl trivial ?_
  refine be rfl ?_
  refine k_then ?_
  refine t_seq ?_
  refine t_seq ?_
  refine b0 ?_
  refine o1 rfl (det_loadN tN30 rfl rfl (.head _) rfl) rfl rfl trivial ?_
  refine o1 rfl (det_move rfl) rfl rfl trivial ?_
  refine o1 rfl (det_call hb73 rfl rfl (fun w1 hs => valid_ok hs.know hE 0 t 0 (by omega))) rfl rfl trivial ?_
  refine o1 rfl (det_assign rfl) rfl rfl trivial ?_
  refine be rfl ?_
  refine k_then ?_
  refine t_seq ?_
  refine b0 ?_
  refine o1 rfl (det_move rfl) rfl rfl trivial ?_
  refine o1 rfl (det_neq rfl rfl) rfl rfl trivial ?_
  refine be rfl ?_
  refine k_then ?_
  refine t_condP bne_iff_ne rfl (fun hb => ?_) (fun hb => ?_)
  ·
    refine t_seq ?_
    refine b0 ?_
    refine o1 rfl (det_move rfl) rfl rfl trivial ?_
    refine o1 rfl (det_assign rfl) rfl rfl trivial ?_
    refine o1 rfl (det_assign rfl) rfl rfl trivial ?_
    refine be rfl ?_
    refine k_then ?_
    refine t_ret (k_thenR (?_))
    refine ret_tmp2 rfl rfl rfl rfl (fun w1 hs => ?_)
    exact ⟨by rw [turnA, if_neg hb], hs.keep⟩
  ·
    have he0 : errG es cyc 0 t 0 = 0 := by omega
    obtain ⟨hG, hT⟩ := errG_zero he0
    have ht : -1099511627776 * 4 ≤ t ∧ t ≤ 1099511627776 * 4 := by omega
    obtain ⟨hl1, hl2, hall0, hsum, hc9, hc1⟩ := okG_parts hG
    replace hc1 : 0 < cyc := by omega
    refine t_skip ?_
    refine k_then ?_
    refine t_seq ?_
    refine b0 ?_
    refine o1 rfl (det_loadN tN30 rfl rfl (.head _) rfl) rfl rfl trivial ?_
    refine o1 rfl (det_move rfl) rfl rfl trivial ?_
    refine o1 rfl (det_call hb75 rfl rfl (fun w1 hs => entry_ok hs.know hE hG t ht)) rfl rfl trivial ?_
    refine o1 rfl (det_move rfl) rfl rfl trivial ?_
    refine o1 rfl (det_extract rfl rfl) rfl rfl trivial ?_
    refine o1 rfl (det_extract rfl rfl) rfl rfl trivial ?_
    refine om1 rfl (new_alloc z3) rfl rfl trivial (fun p7 => ?_)
    refine st1 nofun rfl t1_3 rfl rfl rfl .head rfl trivial rfl ?_
    refine o1 rfl (det_assign rfl) rfl rfl trivial ?_
    refine be rfl ?_
    refine k_then ?_
    refine t_seq ?_
    refine b0 ?_
    refine o1 rfl (det_move rfl) rfl rfl trivial ?_
    refine om1 rfl (new_alloc z3) rfl rfl trivial (fun p9 => ?_)
    refine st1 nofun rfl t1_3 rfl rfl rfl .head rfl trivial rfl ?_
    refine be rfl ?_
    refine k_then ?_
    refine t_seq ?_
    refine t_seq ?_
    refine b0 ?_
    obtain ⟨hlo, hy0, hy1, _⟩ := loc_spec hG t
    refine o1 rfl (det_loadN tN30 rfl rfl (.tail _ (.tail _ (.head _))) rfl) rfl rfl trivial ?_
    refine o1 rfl (det_move rfl) rfl rfl trivial ?_
    refine o1 rfl (det_makeFunc rfl rfl) rfl rfl trivial ?_
    refine oOn (cp := [_, _, _]) (rest := []) nofun rfl hb76 rfl rfl rfl trivial (fun w1 hs => (walk_on (R := fun i cp => cp = [(p9, .cells [.int .i64 (if i = 0 then t else beg es cyc t (i - 1))].toArray 3 (0, 0)), (p7, .cells [.int .i64 (((loc es cyc t).1 : Int))].toArray 3 (0, 0)), (p2, .cells [.slice A n cap, .int .i64 cyc].toArray 30 (0, 0))] ∧ (∀ j, j < i → (ent es (loc es cyc t).1 j).1 = (ent es (loc es cyc t).1 0).1)) (Ro := fun i cp => cp = [(p9, .cells [.int .i64 (beg es cyc t i)].toArray 3 (0, 0)), (p7, .cells [.int .i64 (((loc es cyc t).1 : Int))].toArray 3 (0, 0)), (p2, .cells [.slice A n cap, .int .i64 cyc].toArray 30 (0, 0))] ∧ (∀ j, j < i → (ent es (loc es cyc t).1 j).1 = (ent es (loc es cyc t).1 0).1) ∧ (ent es (loc es cyc t).1 i).1 ≠ (ent es (loc es cyc t).1 0).1) hs.know hE hG t ht hs.away hs.nodup hs.own hb77 ⟨rfl, fun j hj => absurd hj (Nat.not_lt_zero _)⟩ (by
        intro i hi cp hR hids w2 hk ho
        obtain ⟨rfl, hall⟩ := hR
        refine (TurnC_on (x := if i = 0 then t else beg es cyc t (i - 1)) (rest := []) hk hE hlo hs.away hs.nodup ho).mono ?_
        rintro v cp' - ⟨rfl, rfl⟩
        rw [← ent_zero hG]
        refine ⟨_, rfl, fun hb => ⟨by simp, fun j hj => ?_⟩, fun hb => ⟨rfl, hall, by simpa using hb⟩⟩
        by_cases e : j = i
        · rw [e]; simpa using hb
        · exact hall j (by omega)))) (fun v cp1 hv hi1 => ?_)
    obtain ⟨b, rfl, hT1, hN⟩ := hv
    refine be rfl ?_
    refine k_then ?_
    refine t_condP Iff.rfl rfl (fun hb => ?_) (fun hb => ?_)
    ·
      refine t_seq ?_
      refine b0 ?_
      refine o1 rfl (det_assign rfl) rfl rfl trivial ?_
      refine o1 rfl (det_assign rfl) rfl rfl trivial ?_
      refine be rfl ?_
      refine k_then ?_
      refine t_ret (k_thenR (?_))
      refine ret_tmp2 rfl rfl rfl rfl (fun w1 hs => ?_)
      exact ⟨by rw [turnA, if_pos he0, turnE_none (hT1 hb).2]; rfl, hs.keep⟩
    ·
      obtain ⟨i, hi, rfl, hall, hne⟩ := hN (by simpa using hb)
      refine t_skip ?_
      refine k_then ?_
      refine t_seq ?_
      refine b0 ?_
      refine o1 rfl (det_load1 t1_3 rfl rfl (.head _) rfl) rfl rfl trivial ?_
      refine o1 rfl (det_assign rfl) rfl rfl trivial ?_
      refine o1 rfl (det_assign rfl) rfl rfl trivial ?_
      refine be rfl ?_
      refine k_then ?_
      refine t_ret ?_
      refine ret_tmp2 rfl rfl rfl rfl (fun w1 hs => ?_)
      exact ⟨by rw [turnA, if_pos he0, turnE_at hi hall hne]; rfl, hs.keep⟩

end Go.Proofs.Sw
