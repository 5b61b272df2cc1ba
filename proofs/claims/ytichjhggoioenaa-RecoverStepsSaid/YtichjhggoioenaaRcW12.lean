/-
  Walks through layer 40 and its reference.
-/
import Derived.Test.YtichjhggoioenaaRcW11
import Derived.Test.YtichjhggoioenaaRcPlain8
namespace Go.Proofs.Rc
open Go Go.Eng Go.Rc
set_option maxRecDepth 4000

/-- The reference's Accept. -/
theorem raccept_ok {w : World} {F : Know} (hF : ∀ a v, F a = some v → w.cell? a = some v) {r : Rc} (hok : okR r = true) {n t : Int} (ha : argB r n t = true) : Pure Try.prog 20 [.agg (rcv r).toArray, .int .i64 n, .int .i64 t] w (.tuple [.agg (rcv (accR r n t).1).toArray, .bool (accR r n t).2].toArray) := by
  obtain ⟨a1, a2, a3, a4, a5⟩ := argB_iff.1 ha
  have hse := okR_se hok
  have hln := okR_ln hok
  have hat := okR_at hok
  obtain ⟨l, hl⟩ : ∃ l : Nat, r.ln = l := ⟨r.ln.toNat, by omega⟩
  refine fn_pure (F := F) Try.func20 rfl Try.ntmps20 rfl hF ?_
  refine t_seq ?_
  refine b0 ?_
  refine om1 rfl (new_boxN rfl) rfl rfl trivial (fun p3 => ?_)
  refine om1 rfl (new_alloc z24) rfl rfl trivial (fun p6 => ?_)
  refine o1 rfl (det_assign rfl) rfl rfl trivial ?_
  refine be rfl ?_
  refine k_then ?_
  refine t_seq ?_
  refine t_seq ?_
  refine t_merge (env0 := [(1, _), (2, _), (3, _), (6, _), (7, _)]) ⟨rfl, rfl, rfl, rfl, rfl, trivial⟩ 25 (.bool (freshB ⟨r, n, t, 0⟩)) ?_ (fun hK => ?_)
  ·
    refine k_then ?_
    refine t_condP Iff.rfl rfl (fun hb => ?_) (fun hb => ?_)
    ·
      have hfr : freshB ⟨r, n, t, 0⟩ = true := hb
      refine t_seq ?_
      refine b0 ?_
      refine o1 rfl (det_fieldAddr fld24_0 rfl) rfl rfl trivial ?_
      refine o1 rfl (det_load1 t1_3 rfl rfl (.tail _ (.head _)) rfl) rfl rfl trivial ?_
      refine o1 rfl (det_fieldAddr fld24_1 rfl) rfl rfl trivial ?_
      refine o1 rfl (det_load1 t1_3 rfl rfl (.tail _ (.head _)) rfl) rfl rfl trivial ?_
      refine o1 rfl (det_move rfl) rfl rfl trivial ?_
      refine o1 rfl (det_move rfl) rfl rfl trivial ?_
      refine o1 rfl (det_build rfl (fun w => bld24_0_1_3_4_5 _ _ _ _ _ w)) rfl rfl trivial ?_
      refine stN nofun rfl tN24 rfl rfl rfl .head rfl trivial rfl rfl ?_
      refine o1 rfl (det_assign rfl) rfl rfl trivial ?_
      refine be rfl ?_
      refine k_then ?_
      refine t_ret (k_thenR (?_))
      refine ret_any (vs := [_, _]) rfl rfl ⟨(.cellN tN24 rfl rfl (.head _) rfl), (.tmp rfl), trivial⟩ rfl (fun w1 hs => ?_)
      exact ⟨by rw [accR_fresh hfr]; rfl, hs.keep⟩
    ·
      have hfr : freshB ⟨r, n, t, 0⟩ = false := by simpa using hb
      have han : r.an = false := fresh_an hfr
      obtain ⟨b1, b2, b3, b4, b5⟩ := okR_an hok han
      refine t_skip ?_
      refine k_then ?_
      refine t_seq ?_
      refine b0 ?_
      refine o1 rfl (det_fieldAddr fld24_3 rfl) rfl rfl trivial ?_
      refine o1 rfl (det_load1 t1_3 rfl rfl (.tail _ (.head _)) rfl) rfl rfl trivial ?_
      refine o1 rfl (det_move rfl) rfl rfl trivial ?_
      refine o1 rfl (det_call hb27 rfl rfl (fun w1 hs => rdelta_ok hs.know b1 ⟨a1, a2⟩)) rfl rfl trivial ?_
      refine o1 rfl (det_assign rfl) rfl rfl trivial ?_
      refine be rfl ?_
      refine k_then ?_
      refine t_seq ?_
      refine t_seq ?_
      refine t_merge (env0 := [(1, _), (2, _), (3, _), (6, _), (7, _), (8, _)]) ⟨rfl, rfl, rfl, rfl, rfl, rfl, trivial⟩ 47 (.bool (farB ⟨r, n, t, 0⟩)) ?_ (fun hK => ?_)
      ·
        refine k_then ?_
        refine t_condP Iff.rfl rfl (fun hb => ?_) (fun hb => ?_)
        ·
          have hfa : farB ⟨r, n, t, 0⟩ = true := hb
          refine t_seq ?_
          refine b0 ?_
          refine o1 rfl (det_loadN tN24 rfl rfl (.tail _ (.head _)) rfl) rfl rfl trivial ?_
          refine stN nofun rfl tN24 rfl rfl rfl .head rfl trivial rfl rfl ?_
          refine o1 rfl (det_assign rfl) rfl rfl trivial ?_
          refine be rfl ?_
          refine k_then ?_
          refine t_ret (k_thenR (?_))
          refine ret_any (vs := [_, _]) rfl rfl ⟨(.cellN tN24 rfl rfl (.head _) rfl), (.tmp rfl), trivial⟩ rfl (fun w1 hs => ?_)
          exact ⟨by rw [accR_far hfr hfa]; rfl, hs.keep⟩
        ·
          have hfa : farB ⟨r, n, t, 0⟩ = false := by simpa using hb
          have hd := farB_bd hfa
          refine t_skip ?_
          refine k_then ?_
          refine t_seq ?_
          refine t_seq ?_
          refine b0 ?_
          rcases Int.lt_or_le 0 (delta r.la n) with hpos | hneg
          ·
            obtain ⟨k, hk⟩ : ∃ k : Nat, delta r.la n = k := ⟨(delta r.la n).toNat, by omega⟩
            rw [hk]
            refine o1 rfl (det_move rfl) rfl rfl trivial ?_
            refine o1 rfl (det_leq rfl rfl) rfl rfl trivial ?_
            refine o2P decide_eq_true_iff rfl (det_move rfl) rfl rfl trivial (fun hb => ?_) (fun hb => ?_)
            · exfalso; omega
            refine on rfl rfl rfl ⟨_, rfl, .inl rfl⟩ ?_
            refine on rfl rfl rfl ⟨_, rfl, .inl rfl⟩ ?_
            refine on rfl rfl rfl ⟨_, rfl, .inl rfl⟩ ?_
            refine on rfl rfl rfl ⟨_, rfl, .inl rfl⟩ ?_
            refine on rfl rfl rfl ⟨_, rfl, .inl rfl⟩ ?_
            refine o1 rfl (det_pickF rfl rfl) rfl rfl trivial ?_
            refine be rfl ?_
            refine k_then ?_
            refine t_condF rfl ?_
            refine t_skip ?_
            refine k_then ?_
            refine t_seq ?_
            refine b0 ?_
            refine o1 rfl (det_fieldAddr fld24_3 rfl) rfl rfl trivial ?_
            refine o1 rfl (det_load1 t1_3 rfl rfl (.tail _ (.head _)) rfl) rfl rfl trivial ?_
            refine o1 rfl (det_assign rfl) rfl rfl trivial ?_
            refine be rfl ?_
            refine k_then ?_
            refine t_seq ?_
            refine t_seq ?_
            refine b0 ?_
            refine o1 rfl (det_move rfl) rfl rfl trivial ?_
            refine o1 rfl (det_gtr rfl rfl) rfl rfl trivial ?_
            refine be rfl ?_
            refine k_then ?_
            refine t_condP decide_eq_true_iff rfl (fun hb => ?_) (fun hb => ?_)
            rotate_left
            · exfalso; omega
            refine b0 ?_
            refine o1 rfl (det_move rfl) rfl rfl trivial ?_
            refine o1 rfl (det_assign rfl) rfl rfl trivial ?_
            refine be rfl ?_
            refine k_then ?_
            refine t_seq ?_
            refine b0 ?_
            refine o1 rfl (det_assign rfl) rfl rfl trivial ?_
            refine be rfl ?_
            refine k_then ?_
            refine t_seq ?_
            refine t_seq ?_
            refine b0 ?_
            refine o1 rfl (det_fieldAddr fld24_0 rfl) rfl rfl trivial ?_
            refine o1 rfl (det_load1 t1_3 rfl rfl (.tail _ (.head _)) rfl) rfl rfl trivial ?_
            first | (refine o1 rfl (det_subI rfl rfl ?_) rfl rfl trivial ?_; (· omega)) | refine o1 rfl (det_sub rfl rfl) rfl rfl trivial ?_
            refine o1 rfl (det_assign rfl) rfl rfl trivial ?_
            refine be rfl ?_
            refine k_then ?_
            refine t_block ?_
            refine t_whileM (σ := Nat) (fun s => [(10, .int .u64 ((genK (bitF r.la n l r.se n) l s : Nat) : Int)), (11, .int .i64 (r.ln - 1 - (s : Int)))]) (fun _ => _) (fun s => l - s) (fun s => s ≤ l) 0 (env0 := [(1, _), (2, _), (3, _), (6, _), (7, _), (9, _)]) (Nat.zero_le _) ⟨rfl, (by show _ = some (Value.int IntKind.i64 (r.ln - 1 - ((0 : Nat) : Int))); rw [show r.ln - 1 - ((0 : Nat) : Int) = r.ln - 1 by omega]; rfl), trivial⟩ ⟨rfl, rfl, rfl, rfl, rfl, rfl, trivial⟩ (.refl _) ?_
            rintro s hsl
            refine t_seq ?_
            refine t_seq ?_
            refine b0 ?_
            refine o1 rfl (det_move rfl) rfl rfl trivial ?_
            refine o1 rfl (det_geq rfl rfl) rfl rfl trivial ?_
            refine be rfl ?_
            refine k_then ?_
            refine t_condP decide_eq_true_iff rfl (fun hb => ?_) (fun hb => ?_)
            ·
              obtain ⟨i, hi⟩ : ∃ i : Nat, r.ln - 1 - (s : Int) = i := ⟨(r.ln - 1 - (s : Int)).toNat, by omega⟩
              rw [hi]
              have hil : l - 1 - s = i := by omega
              have hpw : 2 ^ s ≤ 2 ^ 63 := Nat.pow_le_pow_right (by decide) (by omega)
              have hsk := genK_lt (bitF r.la n l r.se n) l s
              have hsk2 : genK (bitF r.la n l r.se n) l s < 9223372036854775808 := by omega
              have hab := aft_bd n (-(i : Int))
              have hdb := delta_bd r.la (aft n (-(i : Int)))
              refine t_skip ?_
              refine k_then ?_
              refine t_seq ?_
              refine t_block ?_
              refine t_seq ?_
              refine b0 ?_
              refine o1 rfl (det_move rfl) rfl rfl trivial ?_
              first | (refine o1 rfl (det_mulI rfl rfl ?_) rfl rfl trivial ?_; (· omega)) | refine o1 rfl (det_mul rfl rfl) rfl rfl trivial ?_
              refine o1 rfl (det_assign rfl) rfl rfl trivial ?_
              refine be rfl ?_
              refine k_then ?_
              refine t_seq ?_
              refine b0 ?_
              refine o1 rfl (det_move rfl) rfl rfl trivial ?_
              refine o1 rfl (det_move rfl) rfl rfl trivial ?_
              first | (refine o1 rfl (det_negI rfl ?_) rfl rfl trivial ?_; (· omega)) | refine o1 rfl (det_neg rfl) rfl rfl trivial ?_
              refine o1 rfl (det_call hb17 rfl rfl (fun w1 hs => raft_ok hs.know (by omega))) rfl rfl trivial ?_
              refine o1 rfl (det_assign rfl) rfl rfl trivial ?_
              refine be rfl ?_
              refine k_then ?_
              refine t_seq ?_
              refine b0 ?_
              refine o1 rfl (det_fieldAddr fld24_3 rfl) rfl rfl trivial ?_
              refine o1 rfl (det_load1 t1_3 rfl rfl (.tail _ (.head _)) rfl) rfl rfl trivial ?_
              refine o1 rfl (det_move rfl) rfl rfl trivial ?_
              refine o1 rfl (det_call hb27 rfl rfl (fun w1 hs => rdelta_ok hs.know b1 (aft_bd _ _))) rfl rfl trivial ?_
              first | (refine o1 rfl (det_negI rfl ?_) rfl rfl trivial ?_; (· omega)) | refine o1 rfl (det_neg rfl) rfl rfl trivial ?_
              refine o1 rfl (det_assign rfl) rfl rfl trivial ?_
              refine be rfl ?_
              refine k_then ?_
              refine t_seq ?_
              refine t_merge (env0 := [(1, _), (2, _), (3, _), (6, _), (7, _), (9, _), (10, _), (11, _), (12, _)]) ⟨rfl, rfl, rfl, rfl, rfl, rfl, rfl, rfl, rfl, trivial⟩ 14 (.bool (decide (0 ≤ -delta r.la (aft n (-(i : Int)))) && decide (-delta r.la (aft n (-(i : Int))) < (l : Int)) && r.se.testBit (-delta r.la (aft n (-(i : Int)))).toNat)) ?_ (fun hK => ?_)
              ·
                refine k_then ?_
                refine t_seq ?_
                refine t_merge (env0 := [(1, _), (2, _), (3, _), (6, _), (7, _), (9, _), (10, _), (11, _)]) ⟨rfl, rfl, rfl, rfl, rfl, rfl, rfl, rfl, trivial⟩ 101 (.bool (bitF r.la n l r.se n i)) ?_ (fun hK => ?_)
                ·
                  refine k_then ?_
                  refine t_condP Iff.rfl rfl (fun hb => ?_) (fun hb => ?_)
                  ·
                    have hf : bitF r.la n l r.se n i = true := hb
                    refine b0 ?_
                    refine o1 rfl (det_move rfl) rfl rfl trivial ?_
                    first | (refine o1 rfl (det_addI rfl rfl ?_) rfl rfl trivial ?_; (· omega)) | refine o1 rfl (det_add rfl rfl) rfl rfl trivial ?_
                    refine o1 rfl (det_assign rfl) rfl rfl trivial ?_
                    refine be rfl ?_
                    refine k_blk ?_
                    refine k_then ?_
                    refine b0 ?_
                    refine o1 rfl (det_move rfl) rfl rfl trivial ?_
                    first | (refine o1 rfl (det_subI rfl rfl ?_) rfl rfl trivial ?_; (· omega)) | refine o1 rfl (det_sub rfl rfl) rfl rfl trivial ?_
                    refine o1 rfl (det_assign rfl) rfl rfl trivial ?_
                    refine be rfl ?_
                    refine k_then ?_
                    rw [show (i : Int) - 1 = r.ln - 1 - ((s + 1 : Nat) : Int) by omega]
                    rw [genK_set hsk2 hil hf]
                    refine loop_back (s + 1) (by omega) (by omega) ⟨rfl, rfl, rfl, rfl, rfl, rfl, rfl, rfl, trivial⟩ (.refl _)
                  ·
                    have hf : bitF r.la n l r.se n i = false := by simpa using hb
                    refine t_skip ?_
                    refine k_blk ?_
                    refine k_then ?_
                    refine b0 ?_
                    refine o1 rfl (det_move rfl) rfl rfl trivial ?_
                    first | (refine o1 rfl (det_subI rfl rfl ?_) rfl rfl trivial ?_; (· omega)) | refine o1 rfl (det_sub rfl rfl) rfl rfl trivial ?_
                    refine o1 rfl (det_assign rfl) rfl rfl trivial ?_
                    refine be rfl ?_
                    refine k_then ?_
                    rw [show (i : Int) - 1 = r.ln - 1 - ((s + 1 : Nat) : Int) by omega]
                    rw [genK_no hsk2 hil hf]
                    refine loop_back (s + 1) (by omega) (by omega) ⟨rfl, rfl, rfl, rfl, rfl, rfl, rfl, rfl, trivial⟩ (.refl _)
                ·
                  refine b0 ?_
                  refine o1 rfl (det_move rfl) rfl rfl trivial ?_
                  refine o1 rfl (det_move rfl) rfl rfl trivial ?_
                  refine o1 rfl (det_eql rfl rfl) rfl rfl trivial ?_
                  refine o2P beq_iff_eq rfl (det_move rfl) rfl rfl trivial (fun hb => ?_) (fun hb => ?_)
                  ·
                    refine on rfl rfl rfl ⟨_, rfl, .inl rfl⟩ ?_
                    refine o1 rfl (det_pickT rfl rfl) rfl rfl trivial ?_
                    refine be rfl ?_
                    refine tk_drop ?_ (.refl _) hK
                    exact ⟨(mb rfl (by unfold bitF; grind)), rfl, rfl, rfl, rfl, rfl, rfl, rfl, rfl, trivial⟩
                  ·
                    refine o1 rfl (det_move rfl) rfl rfl ⟨_, rfl, rfl⟩ ?_
                    refine o1 rfl (det_pickF rfl rfl) rfl rfl trivial ?_
                    refine be rfl ?_
                    refine tk_drop ?_ (.refl _) hK
                    exact ⟨(mb rfl (by unfold bitF; grind)), rfl, rfl, rfl, rfl, rfl, rfl, rfl, rfl, trivial⟩
              ·
                refine b0 ?_
                refine o1 rfl (det_move rfl) rfl rfl trivial ?_
                refine o1 rfl (det_geq rfl rfl) rfl rfl trivial ?_
                refine o2P decide_eq_true_iff rfl (det_move rfl) rfl rfl trivial (fun hb => ?_) (fun hb => ?_)
                ·
                  refine o1 rfl (det_move rfl) rfl rfl ⟨_, rfl, rfl⟩ ?_
                  refine o1 rfl (det_fieldAddr fld24_0 rfl) rfl rfl ⟨_, rfl, rfl⟩ ?_
                  refine o1 rfl (det_load1 t1_3 rfl rfl (.tail _ (.head _)) rfl) rfl rfl ⟨_, rfl, rfl⟩ ?_
                  refine o1 rfl (det_lss rfl rfl) rfl rfl ⟨_, rfl, rfl⟩ ?_
                  refine o1 rfl (det_pickT rfl rfl) rfl rfl trivial ?_
                  refine o2P decide_eq_true_iff rfl (det_move rfl) rfl rfl trivial (fun hb => ?_) (fun hb => ?_)
                  ·
                    refine o1 rfl (det_fieldAddr fld24_5 rfl) rfl rfl ⟨_, rfl, rfl⟩ ?_
                    refine o1 rfl (det_load1 t1_22 rfl rfl (.tail _ (.head _)) rfl) rfl rfl ⟨_, rfl, rfl⟩ ?_
                    refine o1 rfl (det_move rfl) rfl rfl ⟨_, rfl, rfl⟩ ?_
                    obtain ⟨j, hj⟩ : ∃ j : Nat, -delta r.la (aft n (-(i : Int))) = j := ⟨(-delta r.la (aft n (-(i : Int)))).toNat, by omega⟩
                    rw [hj]
                    refine o1 rfl (det_call hb23 rfl rfl (fun w1 hs => bit_ok hs.know hse (i := j) (by omega))) rfl rfl ⟨_, rfl, rfl⟩ ?_
                    refine o1 rfl (det_pickT rfl rfl) rfl rfl trivial ?_
                    refine o1 rfl (det_assign rfl) rfl rfl trivial ?_
                    refine be rfl ?_
                    refine tk_drop ?_ (.refl _) hK
                    exact ⟨(mb rfl (by first | rfl | grind)), rfl, rfl, rfl, rfl, rfl, rfl, rfl, rfl, rfl, trivial⟩
                  ·
                    refine on rfl rfl rfl ⟨_, rfl, .inl rfl⟩ ?_
                    refine on rfl rfl rfl ⟨_, rfl, .inl rfl⟩ ?_
                    refine on rfl rfl rfl ⟨_, rfl, .inl rfl⟩ ?_
                    refine on rfl rfl rfl ⟨_, rfl, .inl rfl⟩ ?_
                    refine o1 rfl (det_pickF rfl rfl) rfl rfl trivial ?_
                    refine o1 rfl (det_assign rfl) rfl rfl trivial ?_
                    refine be rfl ?_
                    refine tk_drop ?_ (.refl _) hK
                    exact ⟨(mb rfl (by first | rfl | grind)), rfl, rfl, rfl, rfl, rfl, rfl, rfl, rfl, rfl, trivial⟩
                ·
                  refine on rfl rfl rfl ⟨_, rfl, .inl rfl⟩ ?_
                  refine on rfl rfl rfl ⟨_, rfl, .inl rfl⟩ ?_
                  refine on rfl rfl rfl ⟨_, rfl, .inl rfl⟩ ?_
                  refine on rfl rfl rfl ⟨_, rfl, .inl rfl⟩ ?_
                  refine o1 rfl (det_pickF rfl rfl) rfl rfl trivial ?_
                  refine o1 rfl (det_move rfl) rfl rfl trivial ?_
                  refine on rfl rfl rfl ⟨_, rfl, .inl rfl⟩ ?_
                  refine on rfl rfl rfl ⟨_, rfl, .inl rfl⟩ ?_
                  refine on rfl rfl rfl ⟨_, rfl, .inl rfl⟩ ?_
                  refine on rfl rfl rfl ⟨_, rfl, .inl rfl⟩ ?_
                  refine o1 rfl (det_pickF rfl rfl) rfl rfl trivial ?_
                  refine o1 rfl (det_assign rfl) rfl rfl trivial ?_
                  refine be rfl ?_
                  refine tk_drop ?_ (.refl _) hK
                  exact ⟨(mb rfl (by first | rfl | grind)), rfl, rfl, rfl, rfl, rfl, rfl, rfl, rfl, rfl, trivial⟩
            ·
              have hsl2 : s = l := by omega
              refine t_exit ?_
              refine k_thenE ?_
              refine k_thenE ?_
              refine k_blkE ?_
              refine k_then ?_
              refine t_seq ?_
              refine b0 ?_
              refine o1 rfl (det_fieldAddr fld24_0 rfl) rfl rfl trivial ?_
              refine o1 rfl (det_load1 t1_3 rfl rfl (.tail _ (.head _)) rfl) rfl rfl trivial ?_
              refine o1 rfl (det_fieldAddr fld24_1 rfl) rfl rfl trivial ?_
              refine o1 rfl (det_load1 t1_3 rfl rfl (.tail _ (.head _)) rfl) rfl rfl trivial ?_
              refine o1 rfl (det_move rfl) rfl rfl trivial ?_
              refine o1 rfl (det_move rfl) rfl rfl trivial ?_
              refine o1 rfl (det_move rfl) rfl rfl trivial ?_
              refine o1 rfl (det_build rfl (fun w => bld24_0_1_3_4_5 _ _ _ _ _ w)) rfl rfl trivial ?_
              refine stN nofun rfl tN24 rfl rfl rfl .head rfl trivial rfl rfl ?_
              refine o1 rfl (det_assign rfl) rfl rfl trivial ?_
              refine be rfl ?_
              refine k_then ?_
              refine t_ret ?_
              refine ret_any (vs := [_, _]) rfl rfl ⟨(.cellN tN24 rfl rfl (.head _) rfl), (.tmp rfl), trivial⟩ rfl (fun w1 hs => ?_)
              exact ⟨by rw [accR_next hfr hfa hk (by omega) hl, hsl2, refB_all b1 ⟨a1, a2⟩ hk (by omega) (by omega)]; rfl, hs.keep⟩
          ·
            obtain ⟨k, hk⟩ : ∃ k : Nat, delta r.la n = -(k : Int) := ⟨(-delta r.la n).toNat, by omega⟩
            rw [hk]
            refine o1 rfl (det_move rfl) rfl rfl trivial ?_
            refine o1 rfl (det_leq rfl rfl) rfl rfl trivial ?_
            refine o2P decide_eq_true_iff rfl (det_move rfl) rfl rfl trivial (fun hb => ?_) (fun hb => ?_)
            rotate_left
            · exfalso; omega
            refine o1 rfl (det_fieldAddr fld24_5 rfl) rfl rfl ⟨_, rfl, rfl⟩ ?_
            refine o1 rfl (det_load1 t1_22 rfl rfl (.tail _ (.head _)) rfl) rfl rfl ⟨_, rfl, rfl⟩ ?_
            refine o1 rfl (det_move rfl) rfl rfl ⟨_, rfl, rfl⟩ ?_
            first | (refine o1 rfl (det_negI rfl ?_) rfl rfl ⟨_, rfl, rfl⟩ ?_; (· omega)) | refine o1 rfl (det_neg rfl) rfl rfl ⟨_, rfl, rfl⟩ ?_
            rw [Int.neg_neg]
            refine o1 rfl (det_call hb23 rfl rfl (fun w1 hs => bit_ok hs.know hse (i := k) (by omega))) rfl rfl ⟨_, rfl, rfl⟩ ?_
            refine o1 rfl (det_pickT rfl rfl) rfl rfl trivial ?_
            refine be rfl ?_
            refine k_then ?_
            refine t_condP Iff.rfl rfl (fun hb => ?_) (fun hb => ?_)
            ·
              have hbit : r.se.testBit k = true := by grind
              refine t_seq ?_
              refine b0 ?_
              refine o1 rfl (det_loadN tN24 rfl rfl (.tail _ (.head _)) rfl) rfl rfl trivial ?_
              refine stN nofun rfl tN24 rfl rfl rfl .head rfl trivial rfl rfl ?_
              refine o1 rfl (det_assign rfl) rfl rfl trivial ?_
              refine be rfl ?_
              refine k_then ?_
              refine t_ret (k_thenR (?_))
              refine ret_any (vs := [_, _]) rfl rfl ⟨(.cellN tN24 rfl rfl (.head _) rfl), (.tmp rfl), trivial⟩ rfl (fun w1 hs => ?_)
              exact ⟨by rw [accR_old hfr hfa hk hbit]; rfl, hs.keep⟩
            ·
              have hbit : r.se.testBit k = false := by grind
              refine t_skip ?_
              refine k_then ?_
              refine t_seq ?_
              refine b0 ?_
              refine o1 rfl (det_fieldAddr fld24_3 rfl) rfl rfl trivial ?_
              refine o1 rfl (det_load1 t1_3 rfl rfl (.tail _ (.head _)) rfl) rfl rfl trivial ?_
              refine o1 rfl (det_assign rfl) rfl rfl trivial ?_
              refine be rfl ?_
              refine k_then ?_
              refine t_seq ?_
              refine t_seq ?_
              refine b0 ?_
              refine o1 rfl (det_move rfl) rfl rfl trivial ?_
              refine o1 rfl (det_gtr rfl rfl) rfl rfl trivial ?_
              refine be rfl ?_
              refine k_then ?_
              refine t_condP decide_eq_true_iff rfl (fun hb => ?_) (fun hb => ?_)
              · exfalso; omega
              refine t_skip ?_
              refine k_then ?_
              refine t_seq ?_
              refine b0 ?_
              refine o1 rfl (det_assign rfl) rfl rfl trivial ?_
              refine be rfl ?_
              refine k_then ?_
              refine t_seq ?_
              refine t_seq ?_
              refine b0 ?_
              refine o1 rfl (det_fieldAddr fld24_0 rfl) rfl rfl trivial ?_
              refine o1 rfl (det_load1 t1_3 rfl rfl (.tail _ (.head _)) rfl) rfl rfl trivial ?_
              first | (refine o1 rfl (det_subI rfl rfl ?_) rfl rfl trivial ?_; (· omega)) | refine o1 rfl (det_sub rfl rfl) rfl rfl trivial ?_
              refine o1 rfl (det_assign rfl) rfl rfl trivial ?_
              refine be rfl ?_
              refine k_then ?_
              refine t_block ?_
              refine t_whileM (σ := Nat) (fun s => [(10, .int .u64 ((genK (bitF r.la r.la l r.se n) l s : Nat) : Int)), (11, .int .i64 (r.ln - 1 - (s : Int)))]) (fun _ => _) (fun s => l - s) (fun s => s ≤ l) 0 (env0 := [(1, _), (2, _), (3, _), (6, _), (7, _), (9, _)]) (Nat.zero_le _) ⟨rfl, (by show _ = some (Value.int IntKind.i64 (r.ln - 1 - ((0 : Nat) : Int))); rw [show r.ln - 1 - ((0 : Nat) : Int) = r.ln - 1 by omega]; rfl), trivial⟩ ⟨rfl, rfl, rfl, rfl, rfl, rfl, trivial⟩ (.refl _) ?_
              rintro s hsl
              refine t_seq ?_
              refine t_seq ?_
              refine b0 ?_
              refine o1 rfl (det_move rfl) rfl rfl trivial ?_
              refine o1 rfl (det_geq rfl rfl) rfl rfl trivial ?_
              refine be rfl ?_
              refine k_then ?_
              refine t_condP decide_eq_true_iff rfl (fun hb => ?_) (fun hb => ?_)
              ·
                obtain ⟨i, hi⟩ : ∃ i : Nat, r.ln - 1 - (s : Int) = i := ⟨(r.ln - 1 - (s : Int)).toNat, by omega⟩
                rw [hi]
                have hil : l - 1 - s = i := by omega
                have hpw : 2 ^ s ≤ 2 ^ 63 := Nat.pow_le_pow_right (by decide) (by omega)
                have hsk := genK_lt (bitF r.la r.la l r.se n) l s
                have hsk2 : genK (bitF r.la r.la l r.se n) l s < 9223372036854775808 := by omega
                have hab := aft_bd r.la (-(i : Int))
                have hdb := delta_bd r.la (aft r.la (-(i : Int)))
                refine t_skip ?_
                refine k_then ?_
                refine t_seq ?_
                refine t_block ?_
                refine t_seq ?_
                refine b0 ?_
                refine o1 rfl (det_move rfl) rfl rfl trivial ?_
                first | (refine o1 rfl (det_mulI rfl rfl ?_) rfl rfl trivial ?_; (· omega)) | refine o1 rfl (det_mul rfl rfl) rfl rfl trivial ?_
                refine o1 rfl (det_assign rfl) rfl rfl trivial ?_
                refine be rfl ?_
                refine k_then ?_
                refine t_seq ?_
                refine b0 ?_
                refine o1 rfl (det_move rfl) rfl rfl trivial ?_
                refine o1 rfl (det_move rfl) rfl rfl trivial ?_
                first | (refine o1 rfl (det_negI rfl ?_) rfl rfl trivial ?_; (· omega)) | refine o1 rfl (det_neg rfl) rfl rfl trivial ?_
                refine o1 rfl (det_call hb17 rfl rfl (fun w1 hs => raft_ok hs.know (by omega))) rfl rfl trivial ?_
                refine o1 rfl (det_assign rfl) rfl rfl trivial ?_
                refine be rfl ?_
                refine k_then ?_
                refine t_seq ?_
                refine b0 ?_
                refine o1 rfl (det_fieldAddr fld24_3 rfl) rfl rfl trivial ?_
                refine o1 rfl (det_load1 t1_3 rfl rfl (.tail _ (.head _)) rfl) rfl rfl trivial ?_
                refine o1 rfl (det_move rfl) rfl rfl trivial ?_
                refine o1 rfl (det_call hb27 rfl rfl (fun w1 hs => rdelta_ok hs.know b1 (aft_bd _ _))) rfl rfl trivial ?_
                first | (refine o1 rfl (det_negI rfl ?_) rfl rfl trivial ?_; (· omega)) | refine o1 rfl (det_neg rfl) rfl rfl trivial ?_
                refine o1 rfl (det_assign rfl) rfl rfl trivial ?_
                refine be rfl ?_
                refine k_then ?_
                refine t_seq ?_
                refine t_merge (env0 := [(1, _), (2, _), (3, _), (6, _), (7, _), (9, _), (10, _), (11, _), (12, _)]) ⟨rfl, rfl, rfl, rfl, rfl, rfl, rfl, rfl, rfl, trivial⟩ 14 (.bool (decide (0 ≤ -delta r.la (aft r.la (-(i : Int)))) && decide (-delta r.la (aft r.la (-(i : Int))) < (l : Int)) && r.se.testBit (-delta r.la (aft r.la (-(i : Int)))).toNat)) ?_ (fun hK => ?_)
                ·
                  refine k_then ?_
                  refine t_seq ?_
                  refine t_merge (env0 := [(1, _), (2, _), (3, _), (6, _), (7, _), (9, _), (10, _), (11, _)]) ⟨rfl, rfl, rfl, rfl, rfl, rfl, rfl, rfl, trivial⟩ 101 (.bool (bitF r.la r.la l r.se n i)) ?_ (fun hK => ?_)
                  ·
                    refine k_then ?_
                    refine t_condP Iff.rfl rfl (fun hb => ?_) (fun hb => ?_)
                    ·
                      have hf : bitF r.la r.la l r.se n i = true := hb
                      refine b0 ?_
                      refine o1 rfl (det_move rfl) rfl rfl trivial ?_
                      first | (refine o1 rfl (det_addI rfl rfl ?_) rfl rfl trivial ?_; (· omega)) | refine o1 rfl (det_add rfl rfl) rfl rfl trivial ?_
                      refine o1 rfl (det_assign rfl) rfl rfl trivial ?_
                      refine be rfl ?_
                      refine k_blk ?_
                      refine k_then ?_
                      refine b0 ?_
                      refine o1 rfl (det_move rfl) rfl rfl trivial ?_
                      first | (refine o1 rfl (det_subI rfl rfl ?_) rfl rfl trivial ?_; (· omega)) | refine o1 rfl (det_sub rfl rfl) rfl rfl trivial ?_
                      refine o1 rfl (det_assign rfl) rfl rfl trivial ?_
                      refine be rfl ?_
                      refine k_then ?_
                      rw [show (i : Int) - 1 = r.ln - 1 - ((s + 1 : Nat) : Int) by omega]
                      rw [genK_set hsk2 hil hf]
                      refine loop_back (s + 1) (by omega) (by omega) ⟨rfl, rfl, rfl, rfl, rfl, rfl, rfl, rfl, trivial⟩ (.refl _)
                    ·
                      have hf : bitF r.la r.la l r.se n i = false := by simpa using hb
                      refine t_skip ?_
                      refine k_blk ?_
                      refine k_then ?_
                      refine b0 ?_
                      refine o1 rfl (det_move rfl) rfl rfl trivial ?_
                      first | (refine o1 rfl (det_subI rfl rfl ?_) rfl rfl trivial ?_; (· omega)) | refine o1 rfl (det_sub rfl rfl) rfl rfl trivial ?_
                      refine o1 rfl (det_assign rfl) rfl rfl trivial ?_
                      refine be rfl ?_
                      refine k_then ?_
                      rw [show (i : Int) - 1 = r.ln - 1 - ((s + 1 : Nat) : Int) by omega]
                      rw [genK_no hsk2 hil hf]
                      refine loop_back (s + 1) (by omega) (by omega) ⟨rfl, rfl, rfl, rfl, rfl, rfl, rfl, rfl, trivial⟩ (.refl _)
                  ·
                    refine b0 ?_
                    refine o1 rfl (det_move rfl) rfl rfl trivial ?_
                    refine o1 rfl (det_move rfl) rfl rfl trivial ?_
                    refine o1 rfl (det_eql rfl rfl) rfl rfl trivial ?_
                    refine o2P beq_iff_eq rfl (det_move rfl) rfl rfl trivial (fun hb => ?_) (fun hb => ?_)
                    ·
                      refine on rfl rfl rfl ⟨_, rfl, .inl rfl⟩ ?_
                      refine o1 rfl (det_pickT rfl rfl) rfl rfl trivial ?_
                      refine be rfl ?_
                      refine tk_drop ?_ (.refl _) hK
                      exact ⟨(mb rfl (by unfold bitF; grind)), rfl, rfl, rfl, rfl, rfl, rfl, rfl, rfl, trivial⟩
                    ·
                      refine o1 rfl (det_move rfl) rfl rfl ⟨_, rfl, rfl⟩ ?_
                      refine o1 rfl (det_pickF rfl rfl) rfl rfl trivial ?_
                      refine be rfl ?_
                      refine tk_drop ?_ (.refl _) hK
                      exact ⟨(mb rfl (by unfold bitF; grind)), rfl, rfl, rfl, rfl, rfl, rfl, rfl, rfl, trivial⟩
                ·
                  refine b0 ?_
                  refine o1 rfl (det_move rfl) rfl rfl trivial ?_
                  refine o1 rfl (det_geq rfl rfl) rfl rfl trivial ?_
                  refine o2P decide_eq_true_iff rfl (det_move rfl) rfl rfl trivial (fun hb => ?_) (fun hb => ?_)
                  ·
                    refine o1 rfl (det_move rfl) rfl rfl ⟨_, rfl, rfl⟩ ?_
                    refine o1 rfl (det_fieldAddr fld24_0 rfl) rfl rfl ⟨_, rfl, rfl⟩ ?_
                    refine o1 rfl (det_load1 t1_3 rfl rfl (.tail _ (.head _)) rfl) rfl rfl ⟨_, rfl, rfl⟩ ?_
                    refine o1 rfl (det_lss rfl rfl) rfl rfl ⟨_, rfl, rfl⟩ ?_
                    refine o1 rfl (det_pickT rfl rfl) rfl rfl trivial ?_
                    refine o2P decide_eq_true_iff rfl (det_move rfl) rfl rfl trivial (fun hb => ?_) (fun hb => ?_)
                    ·
                      refine o1 rfl (det_fieldAddr fld24_5 rfl) rfl rfl ⟨_, rfl, rfl⟩ ?_
                      refine o1 rfl (det_load1 t1_22 rfl rfl (.tail _ (.head _)) rfl) rfl rfl ⟨_, rfl, rfl⟩ ?_
                      refine o1 rfl (det_move rfl) rfl rfl ⟨_, rfl, rfl⟩ ?_
                      obtain ⟨j, hj⟩ : ∃ j : Nat, -delta r.la (aft r.la (-(i : Int))) = j := ⟨(-delta r.la (aft r.la (-(i : Int)))).toNat, by omega⟩
                      rw [hj]
                      refine o1 rfl (det_call hb23 rfl rfl (fun w1 hs => bit_ok hs.know hse (i := j) (by omega))) rfl rfl ⟨_, rfl, rfl⟩ ?_
                      refine o1 rfl (det_pickT rfl rfl) rfl rfl trivial ?_
                      refine o1 rfl (det_assign rfl) rfl rfl trivial ?_
                      refine be rfl ?_
                      refine tk_drop ?_ (.refl _) hK
                      exact ⟨(mb rfl (by first | rfl | grind)), rfl, rfl, rfl, rfl, rfl, rfl, rfl, rfl, rfl, trivial⟩
                    ·
                      refine on rfl rfl rfl ⟨_, rfl, .inl rfl⟩ ?_
                      refine on rfl rfl rfl ⟨_, rfl, .inl rfl⟩ ?_
                      refine on rfl rfl rfl ⟨_, rfl, .inl rfl⟩ ?_
                      refine on rfl rfl rfl ⟨_, rfl, .inl rfl⟩ ?_
                      refine o1 rfl (det_pickF rfl rfl) rfl rfl trivial ?_
                      refine o1 rfl (det_assign rfl) rfl rfl trivial ?_
                      refine be rfl ?_
                      refine tk_drop ?_ (.refl _) hK
                      exact ⟨(mb rfl (by first | rfl | grind)), rfl, rfl, rfl, rfl, rfl, rfl, rfl, rfl, rfl, trivial⟩
                  ·
                    refine on rfl rfl rfl ⟨_, rfl, .inl rfl⟩ ?_
                    refine on rfl rfl rfl ⟨_, rfl, .inl rfl⟩ ?_
                    refine on rfl rfl rfl ⟨_, rfl, .inl rfl⟩ ?_
                    refine on rfl rfl rfl ⟨_, rfl, .inl rfl⟩ ?_
                    refine o1 rfl (det_pickF rfl rfl) rfl rfl trivial ?_
                    refine o1 rfl (det_move rfl) rfl rfl trivial ?_
                    refine on rfl rfl rfl ⟨_, rfl, .inl rfl⟩ ?_
                    refine on rfl rfl rfl ⟨_, rfl, .inl rfl⟩ ?_
                    refine on rfl rfl rfl ⟨_, rfl, .inl rfl⟩ ?_
                    refine on rfl rfl rfl ⟨_, rfl, .inl rfl⟩ ?_
                    refine o1 rfl (det_pickF rfl rfl) rfl rfl trivial ?_
                    refine o1 rfl (det_assign rfl) rfl rfl trivial ?_
                    refine be rfl ?_
                    refine tk_drop ?_ (.refl _) hK
                    exact ⟨(mb rfl (by first | rfl | grind)), rfl, rfl, rfl, rfl, rfl, rfl, rfl, rfl, rfl, trivial⟩
              ·
                have hsl2 : s = l := by omega
                refine t_exit ?_
                refine k_thenE ?_
                refine k_thenE ?_
                refine k_blkE ?_
                refine k_then ?_
                refine t_seq ?_
                refine b0 ?_
                refine o1 rfl (det_fieldAddr fld24_0 rfl) rfl rfl trivial ?_
                refine o1 rfl (det_load1 t1_3 rfl rfl (.tail _ (.head _)) rfl) rfl rfl trivial ?_
                refine o1 rfl (det_fieldAddr fld24_1 rfl) rfl rfl trivial ?_
                refine o1 rfl (det_load1 t1_3 rfl rfl (.tail _ (.head _)) rfl) rfl rfl trivial ?_
                refine o1 rfl (det_move rfl) rfl rfl trivial ?_
                refine o1 rfl (det_move rfl) rfl rfl trivial ?_
                refine o1 rfl (det_move rfl) rfl rfl trivial ?_
                refine o1 rfl (det_build rfl (fun w => bld24_0_1_3_4_5 _ _ _ _ _ w)) rfl rfl trivial ?_
                refine stN nofun rfl tN24 rfl rfl rfl .head rfl trivial rfl rfl ?_
                refine o1 rfl (det_assign rfl) rfl rfl trivial ?_
                refine be rfl ?_
                refine k_then ?_
                refine t_ret ?_
                refine ret_any (vs := [_, _]) rfl rfl ⟨(.cellN tN24 rfl rfl (.head _) rfl), (.tmp rfl), trivial⟩ rfl (fun w1 hs => ?_)
                exact ⟨by rw [accR_hit hfr hfa hk hbit, hsl2, refA_all b1 ⟨a1, a2⟩ hk (by omega) (by omega) (by rw [← show r.ln.toNat = l by omega]; exact b5)]; rfl, hs.keep⟩
      ·
        refine b0 ?_
        have hdb0 := delta_bd r.la n
        refine o1 rfl (det_move rfl) rfl rfl trivial ?_
        refine o1 rfl (det_fieldAddr fld24_0 rfl) rfl rfl trivial ?_
        refine o1 rfl (det_load1 t1_3 rfl rfl (.tail _ (.head _)) rfl) rfl rfl trivial ?_
        first | (refine o1 rfl (det_negI rfl ?_) rfl rfl trivial ?_; (· omega)) | refine o1 rfl (det_neg rfl) rfl rfl trivial ?_
        refine o1 rfl (det_leq rfl rfl) rfl rfl trivial ?_
        refine o2P decide_eq_true_iff rfl (det_move rfl) rfl rfl trivial (fun hb => ?_) (fun hb => ?_)
        ·
          refine on rfl rfl rfl ⟨_, rfl, .inl rfl⟩ ?_
          refine on rfl rfl rfl ⟨_, rfl, .inl rfl⟩ ?_
          refine on rfl rfl rfl ⟨_, rfl, .inl rfl⟩ ?_
          refine on rfl rfl rfl ⟨_, rfl, .inl rfl⟩ ?_
          refine o1 rfl (det_pickT rfl rfl) rfl rfl trivial ?_
          refine be rfl ?_
          refine tk_drop ?_ (.refl _) hK
          exact ⟨(mb rfl (by grind [farB])), rfl, rfl, rfl, rfl, rfl, rfl, trivial⟩
        ·
          refine o1 rfl (det_move rfl) rfl rfl ⟨_, rfl, rfl⟩ ?_
          refine o1 rfl (det_fieldAddr fld24_0 rfl) rfl rfl ⟨_, rfl, rfl⟩ ?_
          refine o1 rfl (det_load1 t1_3 rfl rfl (.tail _ (.head _)) rfl) rfl rfl ⟨_, rfl, rfl⟩ ?_
          refine o1 rfl (det_geq rfl rfl) rfl rfl ⟨_, rfl, rfl⟩ ?_
          refine o1 rfl (det_pickF rfl rfl) rfl rfl trivial ?_
          refine be rfl ?_
          refine tk_drop ?_ (.refl _) hK
          exact ⟨(mb rfl (by grind [farB])), rfl, rfl, rfl, rfl, rfl, rfl, trivial⟩
  ·
    refine b0 ?_
    refine o1 rfl (det_fieldAddr fld24_2 rfl) rfl rfl trivial ?_
    refine o1 rfl (det_load1 t1_4 rfl rfl (.tail _ (.head _)) rfl) rfl rfl trivial ?_
    refine o2P Iff.rfl rfl (det_move rfl) rfl rfl trivial (fun hb => ?_) (fun hb => ?_)
    ·
      refine on rfl rfl rfl ⟨_, rfl, .inl rfl⟩ ?_
      refine on rfl rfl rfl ⟨_, rfl, .inl rfl⟩ ?_
      refine on rfl rfl rfl ⟨_, rfl, .inl rfl⟩ ?_
      refine on rfl rfl rfl ⟨_, rfl, .inl rfl⟩ ?_
      refine on rfl rfl rfl ⟨_, rfl, .inl rfl⟩ ?_
      refine on rfl rfl rfl ⟨_, rfl, .inl rfl⟩ ?_
      refine on rfl rfl rfl ⟨_, rfl, .inl rfl⟩ ?_
      refine o1 rfl (det_pickT rfl rfl) rfl rfl trivial ?_
      refine be rfl ?_
      refine tk_drop ?_ (.refl _) hK
      exact ⟨(mb rfl (by grind [freshB])), rfl, rfl, rfl, rfl, rfl, trivial⟩
    ·
      refine o1 rfl (det_move rfl) rfl rfl ⟨_, rfl, rfl⟩ ?_
      refine o1 rfl (det_fieldAddr fld24_4 rfl) rfl rfl ⟨_, rfl, rfl⟩ ?_
      refine o1 rfl (det_load1 t1_3 rfl rfl (.tail _ (.head _)) rfl) rfl rfl ⟨_, rfl, rfl⟩ ?_
      first | (refine o1 rfl (det_subI rfl rfl ?_) rfl rfl ⟨_, rfl, rfl⟩ ?_; (· omega)) | refine o1 rfl (det_sub rfl rfl) rfl rfl ⟨_, rfl, rfl⟩ ?_
      refine o1 rfl (det_fieldAddr fld24_1 rfl) rfl rfl ⟨_, rfl, rfl⟩ ?_
      refine o1 rfl (det_load1 t1_3 rfl rfl (.tail _ (.head _)) rfl) rfl rfl ⟨_, rfl, rfl⟩ ?_
      refine o1 rfl (det_gtr rfl rfl) rfl rfl ⟨_, rfl, rfl⟩ ?_
      refine o1 rfl (det_pickF rfl rfl) rfl rfl trivial ?_
      refine be rfl ?_
      refine tk_drop ?_ (.refl _) hK
      exact ⟨(mb rfl (by grind [freshB])), rfl, rfl, rfl, rfl, rfl, trivial⟩

end Go.Proofs.Rc
