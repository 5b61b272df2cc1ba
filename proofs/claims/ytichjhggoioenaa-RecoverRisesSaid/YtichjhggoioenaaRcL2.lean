/-
  Walks through layer 40 and its reference.
-/
import Derived.Test.YtichjhggoioenaaRcL0
import Derived.Test.YtichjhggoioenaaRcPlain4
namespace Go.Proofs.Rc
open Go Go.Eng Go.Rc
set_option maxRecDepth 4000

/-- RecoverRises. -/
theorem rises_ok {w : World} {F : Know} (hF : ∀ a v, F a = some v → w.cell? a = some v) {f ln rt nn : Int} (hf : 0 ≤ f ∧ f ≤ 65535) (hrt : 0 ≤ rt ∧ rt ≤ 65535) (hnn : 0 ≤ nn ∧ nn ≤ 65535) (hln : 0 ≤ ln ∧ ln ≤ 255) {BA : Option Addr} {bn bc : Nat} {bs : List Int} (hB : IntsK F .i16 BA bn bs) (hbc : bn ≤ bc) : Pure Try.prog 7 [.int .u16 f, .slice BA bn bc, .int .u8 ln, .int .u16 rt, .int .u16 nn] w (.bool true) := by
  refine fn_pure (F := F) Try.func7 rfl Try.ntmps7 rfl hF ?_
  refine t_seq ?_
  refine b0 ?_
  refine o1 rfl (det_assign rfl) rfl rfl trivial ?_
  refine be rfl ?_
  refine k_then ?_
  refine t_seq ?_
  refine t_seq ?_
  refine b0 ?_
  refine o1 rfl (det_call hb9 rfl rfl (fun w1 hs => works_ok hs.know)) rfl rfl trivial ?_
  refine o1 rfl (det_not rfl) rfl rfl trivial ?_
  refine be rfl ?_
  refine k_then ?_
  refine t_condP not_iff_false rfl (fun hb => ?_) (fun hb => ?_)
  · exfalso; simp at hb
  refine t_skip ?_
  refine k_then ?_
  refine t_seq ?_
  refine b0 ?_
  refine o1 rfl (det_call hb16 rfl rfl (fun w1 hs => new_at hs.know (show okR (anyR 1 9) = true by kernel_rfl))) rfl rfl trivial ?_
  refine o1 rfl (det_move rfl) rfl rfl trivial ?_
  refine o1 rfl (det_extract rfl rfl) rfl rfl trivial ?_
  refine o1 rfl (det_extract rfl rfl) rfl rfl trivial ?_
  refine om1 rfl (new_alloc z24) rfl rfl trivial (fun p11 => ?_)
  refine stN nofun rfl tN24 rfl rfl rfl .head rfl trivial rfl rfl ?_
  refine o1 rfl (det_assign rfl) rfl rfl trivial ?_
  refine be rfl ?_
  refine k_then ?_
  refine t_seq ?_
  refine t_seq ?_
  refine b0 ?_
  refine o1 rfl (det_move rfl) rfl rfl trivial ?_
  refine o1 rfl (det_neq rfl rfl) rfl rfl trivial ?_
  refine be rfl ?_
  refine k_then ?_
  refine t_condP bne_iff_ne rfl (fun hb => ?_) (fun hb => ?_)
  · exfalso; exact hb rfl
  refine t_skip ?_
  refine k_then ?_
  refine t_seq ?_
  refine t_seq ?_
  refine b0 ?_
  refine o1 rfl (det_move rfl) rfl rfl trivial ?_
  refine o1 rfl (det_move rfl) rfl rfl trivial ?_
  refine o1 rfl (det_lenS sl62 rfl) rfl rfl trivial ?_
  refine o1 rfl (det_min2 rfl rfl) rfl rfl trivial ?_
  first | (refine o1 rfl (det_sliceTo sl62 rfl rfl ?_) rfl rfl trivial ?_; (· omega))
  obtain ⟨m, hm⟩ : ∃ m, (min (bn : Int) 100).toNat = m := ⟨_, rfl⟩
  have hmn : m ≤ bn := by omega
  have hm100 : m ≤ 100 := by omega
  rw [hm]
  refine o1 rfl (det_lenS sl62 rfl) rfl rfl trivial ?_
  refine o1 rfl (det_move rfl) rfl rfl trivial ?_
  refine be rfl ?_
  refine k_then ?_
  refine t_block ?_
  refine t_whileM (σ := Nat × Rc) (fun s => [(42, .int .i64 s.1)]) (fun s => [(p11, .cells (rcv s.2).toArray 24 (0, 0))]) (fun s => m - s.1) (fun s => s.1 ≤ m ∧ RI s.1 s.2) (0, anyR 1 9) (env0 := [(0, _), (2, _), (3, _), (4, _), (11, _), (12, _), (40, _), (41, _)]) ⟨Nat.zero_le _, .inl ⟨rfl, rfl⟩⟩ ⟨rfl, trivial⟩ ⟨rfl, rfl, rfl, rfl, rfl, rfl, rfl, rfl, trivial⟩ (.refl _) ?_
  rintro s ⟨hsl, hR⟩
  refine t_seq ?_
  refine b0 ?_
  refine o1 rfl (det_lss rfl rfl) rfl rfl trivial ?_
  refine be rfl ?_
  refine k_then ?_
  refine t_seq ?_
  refine t_condP decide_eq_true_iff rfl (fun hb => ?_) (fun hb => ?_)
  ·
    have hlt : s.1 < bs.length := by have := hB.len; omega
    obtain ⟨BA, rfl⟩ := hB.some hlt
    have hltn : (s.1 : Int).toNat < bs.length := by simpa using hlt
    have hbr : -32768 ≤ bs[(s.1 : Int).toNat] ∧ bs[(s.1 : Int).toNat] ≤ 32767 := hB.rng (s.1 : Int).toNat hltn
    have h4 := tm4 bs[(s.1 : Int).toNat]
    refine t_skip ?_
    refine k_then ?_
    refine t_seq ?_
    refine t_block ?_
    refine t_seq ?_
    refine b0 ?_
    refine o1 rfl (det_move rfl) rfl rfl trivial ?_
    first | (refine o1 rfl (det_indexAddr sl62 rfl rfl ?_) rfl rfl trivial ?_; (· (first | decide | omega)))
    refine o1 rfl (det_loadK t1_56 rfl (hB.cell (i := (s.1 : Int)) (by omega) hltn)) rfl rfl trivial ?_
    refine o1 rfl (det_assign rfl) rfl rfl trivial ?_
    refine o1 rfl (det_assign rfl) rfl rfl trivial ?_
    refine be rfl ?_
    refine k_then ?_
    refine t_seq ?_
    refine b0 ?_
    refine o1 rfl (det_move rfl) rfl rfl trivial ?_
    first | (refine o1 rfl (det_convW Try.underlying26 Try.underlying3 rfl ?_) rfl rfl trivial ?_; (· exact IntWalk.i64_in _ (by omega))) | refine o1 rfl (det_conv Try.underlying26 Try.underlying3 rfl) rfl rfl trivial ?_
    refine o1 rfl (det_move rfl) rfl rfl trivial ?_
    first | (refine o1 rfl (det_convW Try.underlying56 Try.underlying3 rfl ?_) rfl rfl trivial ?_; (· exact IntWalk.i64_in _ (by omega))) | refine o1 rfl (det_conv Try.underlying56 Try.underlying3 rfl) rfl rfl trivial ?_
    first | (refine o1 rfl (det_remP rfl rfl ?_) rfl rfl trivial ?_; (· omega)) | (refine o1 rfl (det_rem rfl rfl ?_) rfl rfl trivial ?_; (· (first | decide | omega)))
    first | (refine o1 rfl (det_addI rfl rfl ?_) rfl rfl trivial ?_; (· omega)) | refine o1 rfl (det_add rfl rfl) rfl rfl trivial ?_
    first | (refine o1 rfl (det_addI rfl rfl ?_) rfl rfl trivial ?_; (· omega)) | refine o1 rfl (det_add rfl rfl) rfl rfl trivial ?_
    first | (refine o1 rfl (det_remP rfl rfl ?_) rfl rfl trivial ?_; (· omega)) | (refine o1 rfl (det_rem rfl rfl ?_) rfl rfl trivial ?_; (· (first | decide | omega)))
    refine o1 rfl (det_assign rfl) rfl rfl trivial ?_
    refine be rfl ?_
    refine k_then ?_
    refine t_seq ?_
    refine b0 ?_
    obtain ⟨x, hxe⟩ : ∃ x : Int, (f + (bs[(s.1 : Int).toNat]).tmod 4 + 65536) % 65536 = x := ⟨_, rfl⟩
    have hx : 0 ≤ x ∧ x ≤ 65535 := by omega
    rw [hxe]
    refine o1 rfl (det_loadN tN24 rfl rfl (.head _) rfl) rfl rfl trivial ?_
    refine om1 rfl (new_alloc z24) rfl rfl trivial (fun p16 => ?_)
    refine stN nofun rfl tN24 rfl rfl rfl .head rfl trivial rfl rfl ?_
    refine be rfl ?_
    refine k_then ?_
    refine t_seq ?_
    refine b0 ?_
    obtain ⟨s, r⟩ := s
    replace hR : RI s r := hR
    rcases hR with ⟨hs0, hr⟩ | ⟨hs0, y, hy, hr⟩
    ·
      subst hr
      subst hs0
      refine o1 rfl (det_loadN tN24 rfl rfl (.tail _ (.head _)) rfl) rfl rfl trivial ?_
      refine o1 rfl (det_move rfl) rfl rfl trivial ?_
      refine o1 rfl (det_call hb18 rfl rfl (fun w1 hs => accept_ok hs.know (show 0 < _ by decide) (acc_any (by decide) (by decide) hx (by decide)))) rfl rfl trivial ?_
      refine o1 rfl (det_move rfl) rfl rfl trivial ?_
      refine o1 rfl (det_extract rfl rfl) rfl rfl trivial ?_
      refine o1 rfl (det_extract rfl rfl) rfl rfl trivial ?_
      refine o1 rfl (det_extract rfl rfl) rfl rfl trivial ?_
      refine om1 rfl (new_alloc z24) rfl rfl trivial (fun p17 => ?_)
      refine stN nofun rfl tN24 rfl rfl rfl .head rfl trivial rfl rfl ?_
      refine o1 rfl (det_assign rfl) rfl rfl trivial ?_
      refine o1 rfl (det_assign rfl) rfl rfl trivial ?_
      refine be rfl ?_
      refine k_then ?_
      refine t_seq ?_
      refine t_seq ?_
      refine t_merge (env0 := [(0, _), (2, _), (3, _), (4, _), (11, _), (12, _), (17, _), (40, _), (41, _), (42, _)]) ⟨rfl, rfl, rfl, rfl, rfl, rfl, rfl, rfl, rfl, rfl, trivial⟩ 88 (.bool false) ?_ (fun hK => ?_)
      ·
        refine k_then ?_
        refine t_condF rfl ?_
        refine t_skip ?_
        refine k_then ?_
        refine b0 ?_
        refine o1 rfl (det_loadN tN24 rfl rfl (.head _) rfl) rfl rfl trivial ?_
        refine stN nofun rfl tN24 rfl rfl rfl (.tail (.tail .head)) rfl trivial rfl rfl ?_
        refine be rfl ?_
        refine k_blk ?_
        refine k_then ?_
        refine b0 ?_
        first | (refine o1 rfl (det_addI rfl rfl ?_) rfl rfl trivial ?_; (· omega)) | refine o1 rfl (det_add rfl rfl) rfl rfl trivial ?_
        refine o1 rfl (det_move rfl) rfl rfl trivial ?_
        refine be rfl ?_
        refine k_then ?_
        refine loop_back (1, ⟨1, 9, false, x, 0, 1⟩) ⟨by show 1 ≤ m; simp only at hsl; omega, .inr ⟨by show 0 < 1; decide, x, hx, rfl⟩⟩ (by simp only; omega) ⟨rfl, rfl, rfl, rfl, rfl, rfl, rfl, rfl, rfl, trivial⟩ (.cons _ (.cons _ (.refl _)))
      ·
        refine b0 ?_
        refine o1 rfl (det_move rfl) rfl rfl trivial ?_
        refine o1 rfl (det_neq rfl rfl) rfl rfl trivial ?_
        refine o2P bne_iff_ne rfl (det_move rfl) rfl rfl trivial (fun hb => ?_) (fun hb => ?_)
        · exfalso; exact hb rfl
        refine o1 rfl (det_move rfl) rfl rfl ⟨_, rfl, rfl⟩ ?_
        refine o1 rfl (det_move rfl) rfl rfl ⟨_, rfl, rfl⟩ ?_
        refine o1 rfl (det_eql rfl rfl) rfl rfl ⟨_, rfl, rfl⟩ ?_
        refine o1 rfl (det_neqB Try.underlying4 rfl rfl) rfl rfl ⟨_, rfl, rfl⟩ ?_
        refine o1 rfl (det_pickF rfl rfl) rfl rfl trivial ?_
        refine o2P Iff.rfl rfl (det_move rfl) rfl rfl trivial (fun hb => ?_) (fun hb => ?_)
        ·
          skip
          refine on rfl rfl rfl ⟨_, rfl, .inl rfl⟩ ?_
          refine on rfl rfl rfl ⟨_, rfl, .inl rfl⟩ ?_
          refine on rfl rfl rfl ⟨_, rfl, .inr rfl⟩ ?_
          refine on rfl rfl rfl ⟨_, rfl, .inr rfl⟩ ?_
          refine on rfl rfl rfl ⟨_, rfl, .inr rfl⟩ ?_
          refine on rfl rfl rfl ⟨_, rfl, .inr rfl⟩ ?_
          refine on rfl rfl rfl ⟨_, rfl, .inl rfl⟩ ?_
          refine o1 rfl (det_pickT rfl rfl) rfl rfl trivial ?_
          refine o1 rfl (det_move rfl) rfl rfl trivial ?_
          refine on rfl rfl rfl ⟨_, rfl, .inl rfl⟩ ?_
          refine on rfl rfl rfl ⟨_, rfl, .inl rfl⟩ ?_
          refine on rfl rfl rfl ⟨_, rfl, .inl rfl⟩ ?_
          refine on rfl rfl rfl ⟨_, rfl, .inr rfl⟩ ?_
          refine on rfl rfl rfl ⟨_, rfl, .inr rfl⟩ ?_
          refine on rfl rfl rfl ⟨_, rfl, .inr rfl⟩ ?_
          refine on rfl rfl rfl ⟨_, rfl, .inl rfl⟩ ?_
          refine o1 rfl (det_pickT rfl rfl) rfl rfl trivial ?_
          refine be rfl ?_
          refine tk_drop ?_ (.refl _) hK
          exact ⟨(mb rfl (by first | rfl | (exfalso; exact hb rfl) | (exfalso; simp at hb; done) | (exfalso; rw [hsz] at hb; simp at hb; done) | (simp; done) | (rw [hsz]; rfl) | (simp_all; done))), rfl, rfl, rfl, rfl, rfl, rfl, rfl, rfl, rfl, rfl, trivial⟩
        ·
          skip
          refine o1 rfl (det_move rfl) rfl rfl ⟨_, rfl, rfl⟩ ?_
          refine o2P Iff.rfl rfl (det_move rfl) rfl rfl ⟨_, rfl, rfl⟩ (fun hb => ?_) (fun hb => ?_)
          ·
            skip
            refine o1 rfl (det_fieldAddr fld24_3 rfl) rfl rfl ⟨_, rfl, rfl⟩ ?_
            refine o1 rfl (det_load1 t1_3 rfl rfl (.head _) rfl) rfl rfl ⟨_, rfl, rfl⟩ ?_
            refine o1 rfl (det_move rfl) rfl rfl ⟨_, rfl, rfl⟩ ?_
            refine o1 rfl (det_neq rfl rfl) rfl rfl ⟨_, rfl, rfl⟩ ?_
            refine o1 rfl (det_pickT rfl rfl) rfl rfl ⟨_, rfl, rfl⟩ ?_
            refine o1 rfl (det_pickF rfl rfl) rfl rfl trivial ?_
            refine o2P bne_iff_ne rfl (det_move rfl) rfl rfl trivial (fun hb => ?_) (fun hb => ?_)
            ·
              skip
              refine on rfl rfl rfl ⟨_, rfl, .inl rfl⟩ ?_
              refine on rfl rfl rfl ⟨_, rfl, .inl rfl⟩ ?_
              refine on rfl rfl rfl ⟨_, rfl, .inl rfl⟩ ?_
              refine on rfl rfl rfl ⟨_, rfl, .inr rfl⟩ ?_
              refine on rfl rfl rfl ⟨_, rfl, .inr rfl⟩ ?_
              refine on rfl rfl rfl ⟨_, rfl, .inr rfl⟩ ?_
              refine on rfl rfl rfl ⟨_, rfl, .inl rfl⟩ ?_
              refine o1 rfl (det_pickT rfl rfl) rfl rfl trivial ?_
              refine be rfl ?_
              refine tk_drop ?_ (.refl _) hK
              exact ⟨(mb rfl (by first | rfl | (exfalso; exact hb rfl) | (exfalso; simp at hb; done) | (exfalso; rw [hsz] at hb; simp at hb; done) | (simp; done) | (rw [hsz]; rfl) | (simp_all; done))), rfl, rfl, rfl, rfl, rfl, rfl, rfl, rfl, rfl, rfl, trivial⟩
            ·
              skip
              refine o1 rfl (det_move rfl) rfl rfl ⟨_, rfl, rfl⟩ ?_
              refine o1 rfl (det_not rfl) rfl rfl ⟨_, rfl, rfl⟩ ?_
              refine o2P not_iff_false rfl (det_move rfl) rfl rfl ⟨_, rfl, rfl⟩ (fun hb => ?_) (fun hb => ?_)
              ·
                skip
                refine o1 rfl (det_loadN tN24 rfl rfl (.head _) rfl) rfl rfl ⟨_, rfl, rfl⟩ ?_
                refine o1 rfl (det_loadN tN24 rfl rfl (.tail _ (.head _)) rfl) rfl rfl ⟨_, rfl, rfl⟩ ?_
                refine o1 rfl (det_neqS rfl rfl eqg24 (fun w => eq24 _ _ _ _ _ _ _ _ _ _ _ _ w)) rfl rfl ⟨_, rfl, rfl⟩ ?_
                refine o1 rfl (det_pickT rfl rfl) rfl rfl ⟨_, rfl, rfl⟩ ?_
                refine o1 rfl (det_pickF rfl rfl) rfl rfl trivial ?_
                refine be rfl ?_
                refine tk_drop ?_ (.refl _) hK
                exact ⟨(mb rfl (by first | rfl | (exfalso; exact hb rfl) | (exfalso; simp at hb; done) | (exfalso; rw [hsz] at hb; simp at hb; done) | (simp; done) | (rw [hsz]; rfl) | (simp_all; done))), rfl, rfl, rfl, rfl, rfl, rfl, rfl, rfl, rfl, rfl, trivial⟩
              ·
                skip
                refine on rfl rfl rfl ⟨_, rfl, .inl rfl⟩ ?_
                refine on rfl rfl rfl ⟨_, rfl, .inl rfl⟩ ?_
                refine on rfl rfl rfl ⟨_, rfl, .inl rfl⟩ ?_
                refine o1 rfl (det_pickF rfl rfl) rfl rfl ⟨_, rfl, rfl⟩ ?_
                refine o1 rfl (det_pickF rfl rfl) rfl rfl trivial ?_
                refine be rfl ?_
                refine tk_drop ?_ (.refl _) hK
                exact ⟨(mb rfl (by first | rfl | (exfalso; exact hb rfl) | (exfalso; simp at hb; done) | (exfalso; rw [hsz] at hb; simp at hb; done) | (simp; done) | (rw [hsz]; rfl) | (simp_all; done))), rfl, rfl, rfl, rfl, rfl, rfl, rfl, rfl, rfl, rfl, trivial⟩
          ·
            skip
            refine on rfl rfl rfl ⟨_, rfl, .inl rfl⟩ ?_
            refine on rfl rfl rfl ⟨_, rfl, .inl rfl⟩ ?_
            refine on rfl rfl rfl ⟨_, rfl, .inl rfl⟩ ?_
            refine on rfl rfl rfl ⟨_, rfl, .inl rfl⟩ ?_
            refine o1 rfl (det_pickF rfl rfl) rfl rfl ⟨_, rfl, rfl⟩ ?_
            refine o1 rfl (det_pickF rfl rfl) rfl rfl trivial ?_
            refine o1 rfl (det_move rfl) rfl rfl trivial ?_
            refine o1 rfl (det_move rfl) rfl rfl ⟨_, rfl, rfl⟩ ?_
            refine o1 rfl (det_not rfl) rfl rfl ⟨_, rfl, rfl⟩ ?_
            refine o2P not_iff_false rfl (det_move rfl) rfl rfl ⟨_, rfl, rfl⟩ (fun hb => ?_) (fun hb => ?_)
            ·
              skip
              refine o1 rfl (det_loadN tN24 rfl rfl (.head _) rfl) rfl rfl ⟨_, rfl, rfl⟩ ?_
              refine o1 rfl (det_loadN tN24 rfl rfl (.tail _ (.head _)) rfl) rfl rfl ⟨_, rfl, rfl⟩ ?_
              refine o1 rfl (det_neqS rfl rfl eqg24 (fun w => eq24 _ _ _ _ _ _ _ _ _ _ _ _ w)) rfl rfl ⟨_, rfl, rfl⟩ ?_
              refine o1 rfl (det_pickT rfl rfl) rfl rfl ⟨_, rfl, rfl⟩ ?_
              refine o1 rfl (det_pickF rfl rfl) rfl rfl trivial ?_
              refine be rfl ?_
              refine tk_drop ?_ (.refl _) hK
              exact ⟨(mb rfl (by first | rfl | (exfalso; exact hb rfl) | (exfalso; simp at hb; done) | (exfalso; rw [hsz] at hb; simp at hb; done) | (simp; done) | (rw [hsz]; rfl) | (simp_all; done))), rfl, rfl, rfl, rfl, rfl, rfl, rfl, rfl, rfl, rfl, trivial⟩
            ·
              skip
              refine on rfl rfl rfl ⟨_, rfl, .inl rfl⟩ ?_
              refine on rfl rfl rfl ⟨_, rfl, .inl rfl⟩ ?_
              refine on rfl rfl rfl ⟨_, rfl, .inl rfl⟩ ?_
              refine o1 rfl (det_pickF rfl rfl) rfl rfl ⟨_, rfl, rfl⟩ ?_
              refine o1 rfl (det_pickF rfl rfl) rfl rfl trivial ?_
              refine be rfl ?_
              refine tk_drop ?_ (.refl _) hK
              exact ⟨(mb rfl (by first | rfl | (exfalso; exact hb rfl) | (exfalso; simp at hb; done) | (exfalso; rw [hsz] at hb; simp at hb; done) | (simp; done) | (rw [hsz]; rfl) | (simp_all; done))), rfl, rfl, rfl, rfl, rfl, rfl, rfl, rfl, rfl, rfl, trivial⟩
    ·
      subst hr
      have hsz : ((s : Int) == 0) = false := by simp; omega
      refine o1 rfl (det_loadN tN24 rfl rfl (.tail _ (.head _)) rfl) rfl rfl trivial ?_
      refine o1 rfl (det_move rfl) rfl rfl trivial ?_
      refine o1 rfl (det_call hb18 rfl rfl (fun w1 hs => accept_ok hs.know (show 1 < _ by decide) (acc_one hx hy))) rfl rfl trivial ?_
      refine o1 rfl (det_move rfl) rfl rfl trivial ?_
      refine o1 rfl (det_extract rfl rfl) rfl rfl trivial ?_
      refine o1 rfl (det_extract rfl rfl) rfl rfl trivial ?_
      refine o1 rfl (det_extract rfl rfl) rfl rfl trivial ?_
      refine om1 rfl (new_alloc z24) rfl rfl trivial (fun p17 => ?_)
      refine stN nofun rfl tN24 rfl rfl rfl .head rfl trivial rfl rfl ?_
      refine o1 rfl (det_assign rfl) rfl rfl trivial ?_
      refine o1 rfl (det_assign rfl) rfl rfl trivial ?_
      refine be rfl ?_
      refine k_then ?_
      refine t_seq ?_
      refine t_seq ?_
      refine t_merge (env0 := [(0, _), (2, _), (3, _), (4, _), (11, _), (12, _), (17, _), (40, _), (41, _), (42, _)]) ⟨rfl, rfl, rfl, rfl, rfl, rfl, rfl, rfl, rfl, rfl, trivial⟩ 88 (.bool false) ?_ (fun hK => ?_)
      ·
        refine k_then ?_
        refine t_condF rfl ?_
        refine t_skip ?_
        refine k_then ?_
        refine b0 ?_
        refine o1 rfl (det_loadN tN24 rfl rfl (.head _) rfl) rfl rfl trivial ?_
        refine stN nofun rfl tN24 rfl rfl rfl (.tail (.tail .head)) rfl trivial rfl rfl ?_
        refine be rfl ?_
        refine k_blk ?_
        refine k_then ?_
        refine b0 ?_
        first | (refine o1 rfl (det_addI rfl rfl ?_) rfl rfl trivial ?_; (· omega)) | refine o1 rfl (det_add rfl rfl) rfl rfl trivial ?_
        refine o1 rfl (det_move rfl) rfl rfl trivial ?_
        refine be rfl ?_
        refine k_then ?_
        refine loop_back (s + 1, ⟨1, 9, false, y, 0, 1⟩) ⟨by show s + 1 ≤ m; simp only at hsl; omega, .inr ⟨Nat.succ_pos _, y, hy, rfl⟩⟩ (by simp only; omega) ⟨rfl, rfl, rfl, rfl, rfl, rfl, rfl, rfl, rfl, trivial⟩ (.cons _ (.cons _ (.refl _)))
      ·
        refine b0 ?_
        refine o1 rfl (det_move rfl) rfl rfl trivial ?_
        refine o1 rfl (det_neq rfl rfl) rfl rfl trivial ?_
        refine o2P bne_iff_ne rfl (det_move rfl) rfl rfl trivial (fun hb => ?_) (fun hb => ?_)
        · exfalso; exact hb rfl
        refine o1 rfl (det_move rfl) rfl rfl ⟨_, rfl, rfl⟩ ?_
        refine o1 rfl (det_move rfl) rfl rfl ⟨_, rfl, rfl⟩ ?_
        refine o1 rfl (det_eql rfl rfl) rfl rfl ⟨_, rfl, rfl⟩ ?_
        refine o1 rfl (det_neqB Try.underlying4 rfl rfl) rfl rfl ⟨_, rfl, rfl⟩ ?_
        refine o1 rfl (det_pickF rfl rfl) rfl rfl trivial ?_
        refine o2P Iff.rfl rfl (det_move rfl) rfl rfl trivial (fun hb => ?_) (fun hb => ?_)
        ·
          skip
          refine on rfl rfl rfl ⟨_, rfl, .inl rfl⟩ ?_
          refine on rfl rfl rfl ⟨_, rfl, .inl rfl⟩ ?_
          refine on rfl rfl rfl ⟨_, rfl, .inr rfl⟩ ?_
          refine on rfl rfl rfl ⟨_, rfl, .inr rfl⟩ ?_
          refine on rfl rfl rfl ⟨_, rfl, .inr rfl⟩ ?_
          refine on rfl rfl rfl ⟨_, rfl, .inr rfl⟩ ?_
          refine on rfl rfl rfl ⟨_, rfl, .inl rfl⟩ ?_
          refine o1 rfl (det_pickT rfl rfl) rfl rfl trivial ?_
          refine o1 rfl (det_move rfl) rfl rfl trivial ?_
          refine on rfl rfl rfl ⟨_, rfl, .inl rfl⟩ ?_
          refine on rfl rfl rfl ⟨_, rfl, .inl rfl⟩ ?_
          refine on rfl rfl rfl ⟨_, rfl, .inl rfl⟩ ?_
          refine on rfl rfl rfl ⟨_, rfl, .inr rfl⟩ ?_
          refine on rfl rfl rfl ⟨_, rfl, .inr rfl⟩ ?_
          refine on rfl rfl rfl ⟨_, rfl, .inr rfl⟩ ?_
          refine on rfl rfl rfl ⟨_, rfl, .inl rfl⟩ ?_
          refine o1 rfl (det_pickT rfl rfl) rfl rfl trivial ?_
          refine be rfl ?_
          refine tk_drop ?_ (.refl _) hK
          exact ⟨(mb rfl (by first | rfl | (exfalso; exact hb rfl) | (exfalso; simp at hb; done) | (exfalso; rw [hsz] at hb; simp at hb; done) | (simp; done) | (rw [hsz]; rfl) | (simp_all; done))), rfl, rfl, rfl, rfl, rfl, rfl, rfl, rfl, rfl, rfl, trivial⟩
        ·
          skip
          refine o1 rfl (det_move rfl) rfl rfl ⟨_, rfl, rfl⟩ ?_
          refine o2P Iff.rfl rfl (det_move rfl) rfl rfl ⟨_, rfl, rfl⟩ (fun hb => ?_) (fun hb => ?_)
          ·
            skip
            refine o1 rfl (det_fieldAddr fld24_3 rfl) rfl rfl ⟨_, rfl, rfl⟩ ?_
            refine o1 rfl (det_load1 t1_3 rfl rfl (.head _) rfl) rfl rfl ⟨_, rfl, rfl⟩ ?_
            refine o1 rfl (det_move rfl) rfl rfl ⟨_, rfl, rfl⟩ ?_
            refine o1 rfl (det_neq rfl rfl) rfl rfl ⟨_, rfl, rfl⟩ ?_
            refine o1 rfl (det_pickT rfl rfl) rfl rfl ⟨_, rfl, rfl⟩ ?_
            refine o1 rfl (det_pickF rfl rfl) rfl rfl trivial ?_
            refine o2P bne_iff_ne rfl (det_move rfl) rfl rfl trivial (fun hb => ?_) (fun hb => ?_)
            ·
              skip
              refine on rfl rfl rfl ⟨_, rfl, .inl rfl⟩ ?_
              refine on rfl rfl rfl ⟨_, rfl, .inl rfl⟩ ?_
              refine on rfl rfl rfl ⟨_, rfl, .inl rfl⟩ ?_
              refine on rfl rfl rfl ⟨_, rfl, .inr rfl⟩ ?_
              refine on rfl rfl rfl ⟨_, rfl, .inr rfl⟩ ?_
              refine on rfl rfl rfl ⟨_, rfl, .inr rfl⟩ ?_
              refine on rfl rfl rfl ⟨_, rfl, .inl rfl⟩ ?_
              refine o1 rfl (det_pickT rfl rfl) rfl rfl trivial ?_
              refine be rfl ?_
              refine tk_drop ?_ (.refl _) hK
              exact ⟨(mb rfl (by first | rfl | (exfalso; exact hb rfl) | (exfalso; simp at hb; done) | (exfalso; rw [hsz] at hb; simp at hb; done) | (simp; done) | (rw [hsz]; rfl) | (simp_all; done))), rfl, rfl, rfl, rfl, rfl, rfl, rfl, rfl, rfl, rfl, trivial⟩
            ·
              skip
              refine o1 rfl (det_move rfl) rfl rfl ⟨_, rfl, rfl⟩ ?_
              refine o1 rfl (det_not rfl) rfl rfl ⟨_, rfl, rfl⟩ ?_
              refine o2P not_iff_false rfl (det_move rfl) rfl rfl ⟨_, rfl, rfl⟩ (fun hb => ?_) (fun hb => ?_)
              ·
                skip
                refine o1 rfl (det_loadN tN24 rfl rfl (.head _) rfl) rfl rfl ⟨_, rfl, rfl⟩ ?_
                refine o1 rfl (det_loadN tN24 rfl rfl (.tail _ (.head _)) rfl) rfl rfl ⟨_, rfl, rfl⟩ ?_
                refine o1 rfl (det_neqS rfl rfl eqg24 (fun w => eq24 _ _ _ _ _ _ _ _ _ _ _ _ w)) rfl rfl ⟨_, rfl, rfl⟩ ?_
                refine o1 rfl (det_pickT rfl rfl) rfl rfl ⟨_, rfl, rfl⟩ ?_
                refine o1 rfl (det_pickF rfl rfl) rfl rfl trivial ?_
                refine be rfl ?_
                refine tk_drop ?_ (.refl _) hK
                exact ⟨(mb rfl (by first | rfl | (exfalso; exact hb rfl) | (exfalso; simp at hb; done) | (exfalso; rw [hsz] at hb; simp at hb; done) | (simp; done) | (rw [hsz]; rfl) | (simp_all; done))), rfl, rfl, rfl, rfl, rfl, rfl, rfl, rfl, rfl, rfl, trivial⟩
              ·
                skip
                refine on rfl rfl rfl ⟨_, rfl, .inl rfl⟩ ?_
                refine on rfl rfl rfl ⟨_, rfl, .inl rfl⟩ ?_
                refine on rfl rfl rfl ⟨_, rfl, .inl rfl⟩ ?_
                refine o1 rfl (det_pickF rfl rfl) rfl rfl ⟨_, rfl, rfl⟩ ?_
                refine o1 rfl (det_pickF rfl rfl) rfl rfl trivial ?_
                refine be rfl ?_
                refine tk_drop ?_ (.refl _) hK
                exact ⟨(mb rfl (by first | rfl | (exfalso; exact hb rfl) | (exfalso; simp at hb; done) | (exfalso; rw [hsz] at hb; simp at hb; done) | (simp; done) | (rw [hsz]; rfl) | (simp_all; done))), rfl, rfl, rfl, rfl, rfl, rfl, rfl, rfl, rfl, rfl, trivial⟩
          ·
            skip
            refine on rfl rfl rfl ⟨_, rfl, .inl rfl⟩ ?_
            refine on rfl rfl rfl ⟨_, rfl, .inl rfl⟩ ?_
            refine on rfl rfl rfl ⟨_, rfl, .inl rfl⟩ ?_
            refine on rfl rfl rfl ⟨_, rfl, .inl rfl⟩ ?_
            refine o1 rfl (det_pickF rfl rfl) rfl rfl ⟨_, rfl, rfl⟩ ?_
            refine o1 rfl (det_pickF rfl rfl) rfl rfl trivial ?_
            refine o1 rfl (det_move rfl) rfl rfl trivial ?_
            refine o1 rfl (det_move rfl) rfl rfl ⟨_, rfl, rfl⟩ ?_
            refine o1 rfl (det_not rfl) rfl rfl ⟨_, rfl, rfl⟩ ?_
            refine o2P not_iff_false rfl (det_move rfl) rfl rfl ⟨_, rfl, rfl⟩ (fun hb => ?_) (fun hb => ?_)
            ·
              skip
              refine o1 rfl (det_loadN tN24 rfl rfl (.head _) rfl) rfl rfl ⟨_, rfl, rfl⟩ ?_
              refine o1 rfl (det_loadN tN24 rfl rfl (.tail _ (.head _)) rfl) rfl rfl ⟨_, rfl, rfl⟩ ?_
              refine o1 rfl (det_neqS rfl rfl eqg24 (fun w => eq24 _ _ _ _ _ _ _ _ _ _ _ _ w)) rfl rfl ⟨_, rfl, rfl⟩ ?_
              refine o1 rfl (det_pickT rfl rfl) rfl rfl ⟨_, rfl, rfl⟩ ?_
              refine o1 rfl (det_pickF rfl rfl) rfl rfl trivial ?_
              refine be rfl ?_
              refine tk_drop ?_ (.refl _) hK
              exact ⟨(mb rfl (by first | rfl | (exfalso; exact hb rfl) | (exfalso; simp at hb; done) | (exfalso; rw [hsz] at hb; simp at hb; done) | (simp; done) | (rw [hsz]; rfl) | (simp_all; done))), rfl, rfl, rfl, rfl, rfl, rfl, rfl, rfl, rfl, rfl, trivial⟩
            ·
              skip
              refine on rfl rfl rfl ⟨_, rfl, .inl rfl⟩ ?_
              refine on rfl rfl rfl ⟨_, rfl, .inl rfl⟩ ?_
              refine on rfl rfl rfl ⟨_, rfl, .inl rfl⟩ ?_
              refine o1 rfl (det_pickF rfl rfl) rfl rfl ⟨_, rfl, rfl⟩ ?_
              refine o1 rfl (det_pickF rfl rfl) rfl rfl trivial ?_
              refine be rfl ?_
              refine tk_drop ?_ (.refl _) hK
              exact ⟨(mb rfl (by first | rfl | (exfalso; exact hb rfl) | (exfalso; simp at hb; done) | (exfalso; rw [hsz] at hb; simp at hb; done) | (simp; done) | (rw [hsz]; rfl) | (simp_all; done))), rfl, rfl, rfl, rfl, rfl, rfl, rfl, rfl, rfl, rfl, trivial⟩
  ·
    skip
    refine t_exit ?_
    refine k_thenE ?_
    refine k_thenE ?_
    refine k_blkE ?_
    refine k_then ?_
    refine t_seq ?_
    refine b0 ?_
    refine o1 rfl (det_move rfl) rfl rfl trivial ?_
    first | (refine o1 rfl (det_remP rfl rfl ?_) rfl rfl trivial ?_; (· omega)) | (refine o1 rfl (det_rem rfl rfl ?_) rfl rfl trivial ?_; (· (first | decide | omega)))
    first | (refine o1 rfl (det_convW Try.underlying5 Try.underlying3 rfl ?_) rfl rfl trivial ?_; (· exact IntWalk.i64_in _ (by omega))) | refine o1 rfl (det_conv Try.underlying5 Try.underlying3 rfl) rfl rfl trivial ?_
    first | (refine o1 rfl (det_addI rfl rfl ?_) rfl rfl trivial ?_; (· omega)) | refine o1 rfl (det_add rfl rfl) rfl rfl trivial ?_
    refine o1 rfl (det_move rfl) rfl rfl trivial ?_
    first | (refine o1 rfl (det_convW Try.underlying26 Try.underlying3 rfl ?_) rfl rfl trivial ?_; (· exact IntWalk.i64_in _ (by omega))) | refine o1 rfl (det_conv Try.underlying26 Try.underlying3 rfl) rfl rfl trivial ?_
    first | (refine o1 rfl (det_addI rfl rfl ?_) rfl rfl trivial ?_; (· omega)) | refine o1 rfl (det_add rfl rfl) rfl rfl trivial ?_
    refine o1 rfl (det_call hb16 rfl rfl (fun w1 hs => new_at hs.know (ok_any (by omega) (by omega)))) rfl rfl trivial ?_
    refine o1 rfl (det_move rfl) rfl rfl trivial ?_
    refine o1 rfl (det_extract rfl rfl) rfl rfl trivial ?_
    refine o1 rfl (det_extract rfl rfl) rfl rfl trivial ?_
    refine om1 rfl (new_alloc z24) rfl rfl trivial (fun p20 => ?_)
    refine stN nofun rfl tN24 rfl rfl rfl .head rfl trivial rfl rfl ?_
    refine o1 rfl (det_assign rfl) rfl rfl trivial ?_
    refine be rfl ?_
    refine k_then ?_
    refine t_seq ?_
    refine t_seq ?_
    refine b0 ?_
    refine o1 rfl (det_move rfl) rfl rfl trivial ?_
    refine o1 rfl (det_neq rfl rfl) rfl rfl trivial ?_
    refine be rfl ?_
    refine k_then ?_
    refine t_condP bne_iff_ne rfl (fun hb => ?_) (fun hb => ?_)
    · exfalso; exact hb rfl
    refine t_skip ?_
    refine k_then ?_
    refine t_seq ?_
    refine b0 ?_
    refine o1 rfl (det_loadN tN24 rfl rfl (.head _) rfl) rfl rfl trivial ?_
    refine o1 rfl (det_move rfl) rfl rfl trivial ?_
    first | (refine o1 rfl (det_convW Try.underlying26 Try.underlying3 rfl ?_) rfl rfl trivial ?_; (· exact IntWalk.i64_in _ (by omega))) | refine o1 rfl (det_conv Try.underlying26 Try.underlying3 rfl) rfl rfl trivial ?_
    refine o1 rfl (det_call hb18 rfl rfl (fun w1 hs => accept_ok hs.know (show 0 < _ by decide) (acc_any (l := 1 + ln % 64) (s := 1 + rt) (by omega) (by omega) hf (by decide)))) rfl rfl trivial ?_
    refine o1 rfl (det_move rfl) rfl rfl trivial ?_
    refine o1 rfl (det_extract rfl rfl) rfl rfl trivial ?_
    refine o1 rfl (det_extract rfl rfl) rfl rfl trivial ?_
    refine o1 rfl (det_extract rfl rfl) rfl rfl trivial ?_
    refine stN nofun rfl tN24 rfl rfl rfl .head rfl trivial rfl rfl ?_
    refine o1 rfl (det_assign rfl) rfl rfl trivial ?_
    refine o1 rfl (det_assign rfl) rfl rfl trivial ?_
    refine be rfl ?_
    refine k_then ?_
    refine t_seq ?_
    refine t_seq ?_
    refine b0 ?_
    refine o1 rfl (det_move rfl) rfl rfl trivial ?_
    refine o1 rfl (det_neq rfl rfl) rfl rfl trivial ?_
    refine o2P bne_iff_ne rfl (det_move rfl) rfl rfl trivial (fun hb => ?_) (fun hb => ?_)
    · exfalso; exact hb rfl
    refine o1 rfl (det_move rfl) rfl rfl ⟨_, rfl, rfl⟩ ?_
    refine o1 rfl (det_not rfl) rfl rfl ⟨_, rfl, rfl⟩ ?_
    refine o1 rfl (det_pickF rfl rfl) rfl rfl trivial ?_
    refine be rfl ?_
    refine k_then ?_
    refine t_condP not_iff_false rfl (fun hb => ?_) (fun hb => ?_)
    · exfalso; simp at hb
    refine t_skip ?_
    refine k_then ?_
    refine t_seq ?_
    refine b0 ?_
    refine o1 rfl (det_move rfl) rfl rfl trivial ?_
    first | (refine o1 rfl (det_convW Try.underlying26 Try.underlying3 rfl ?_) rfl rfl trivial ?_; (· exact IntWalk.i64_in _ (by omega))) | refine o1 rfl (det_conv Try.underlying26 Try.underlying3 rfl) rfl rfl trivial ?_
    first | (refine o1 rfl (det_addI rfl rfl ?_) rfl rfl trivial ?_; (· omega)) | refine o1 rfl (det_add rfl rfl) rfl rfl trivial ?_
    refine o1 rfl (det_move rfl) rfl rfl trivial ?_
    first | (refine o1 rfl (det_convW Try.underlying26 Try.underlying3 rfl ?_) rfl rfl trivial ?_; (· exact IntWalk.i64_in _ (by omega))) | refine o1 rfl (det_conv Try.underlying26 Try.underlying3 rfl) rfl rfl trivial ?_
    first | (refine o1 rfl (det_remP rfl rfl ?_) rfl rfl trivial ?_; (· omega)) | (refine o1 rfl (det_rem rfl rfl ?_) rfl rfl trivial ?_; (· (first | decide | omega)))
    first | (refine o1 rfl (det_addI rfl rfl ?_) rfl rfl trivial ?_; (· omega)) | refine o1 rfl (det_add rfl rfl) rfl rfl trivial ?_
    first | (refine o1 rfl (det_remP rfl rfl ?_) rfl rfl trivial ?_; (· omega)) | (refine o1 rfl (det_rem rfl rfl ?_) rfl rfl trivial ?_; (· (first | decide | omega)))
    refine o1 rfl (det_assign rfl) rfl rfl trivial ?_
    refine be rfl ?_
    refine k_then ?_
    refine t_seq ?_
    refine b0 ?_
    refine o1 rfl (det_loadN tN24 rfl rfl (.head _) rfl) rfl rfl trivial ?_
    refine o1 rfl (det_move rfl) rfl rfl trivial ?_
    refine o1 rfl (det_fieldAddr fld24_1 rfl) rfl rfl trivial ?_
    refine o1 rfl (det_load1 t1_3 rfl rfl (.head _) rfl) rfl rfl trivial ?_
    first | (refine o1 rfl (det_addI rfl rfl ?_) rfl rfl trivial ?_; (· omega)) | refine o1 rfl (det_add rfl rfl) rfl rfl trivial ?_
    refine o1 rfl (det_call hb18 rfl rfl (fun w1 hs => accept_ok hs.know (show 1 < _ by decide) (acc_far (n := nn % 65408) (by omega) (by omega) hf (by omega) (by show IntKind.i64.wrap (7 + (1 + rt)) = _; rw [wrap_in (by omega) (by omega)])))) rfl rfl trivial ?_
    refine o1 rfl (det_move rfl) rfl rfl trivial ?_
    refine o1 rfl (det_extract rfl rfl) rfl rfl trivial ?_
    refine o1 rfl (det_extract rfl rfl) rfl rfl trivial ?_
    refine o1 rfl (det_extract rfl rfl) rfl rfl trivial ?_
    refine om1 rfl (new_alloc z24) rfl rfl trivial (fun p23 => ?_)
    refine stN nofun rfl tN24 rfl rfl rfl .head rfl trivial rfl rfl ?_
    refine o1 rfl (det_assign rfl) rfl rfl trivial ?_
    refine o1 rfl (det_assign rfl) rfl rfl trivial ?_
    refine be rfl ?_
    refine k_then ?_
    refine t_seq ?_
    refine b0 ?_
    refine o1 rfl (det_loadN tN24 rfl rfl (.tail _ (.head _)) rfl) rfl rfl trivial ?_
    refine o1 rfl (det_move rfl) rfl rfl trivial ?_
    refine o1 rfl (det_fieldAddr fld24_1 rfl) rfl rfl trivial ?_
    refine o1 rfl (det_load1 t1_3 rfl rfl (.tail _ (.head _)) rfl) rfl rfl trivial ?_
    first | (refine o1 rfl (det_addI rfl rfl ?_) rfl rfl trivial ?_; (· omega)) | refine o1 rfl (det_add rfl rfl) rfl rfl trivial ?_
    refine o1 rfl (det_call hb18 rfl rfl (fun w1 hs => accept_ok hs.know (show 1 < _ by decide) (acc_late (by omega) (by omega) hf (by omega) (by show IntKind.i64.wrap (8 + (1 + rt)) = _; rw [wrap_in (by omega) (by omega)])))) rfl rfl trivial ?_
    refine o1 rfl (det_move rfl) rfl rfl trivial ?_
    refine o1 rfl (det_extract rfl rfl) rfl rfl trivial ?_
    refine o1 rfl (det_extract rfl rfl) rfl rfl trivial ?_
    refine o1 rfl (det_extract rfl rfl) rfl rfl trivial ?_
    refine om1 rfl (new_alloc z24) rfl rfl trivial (fun p25 => ?_)
    refine stN nofun rfl tN24 rfl rfl rfl .head rfl trivial rfl rfl ?_
    refine o1 rfl (det_assign rfl) rfl rfl trivial ?_
    refine o1 rfl (det_assign rfl) rfl rfl trivial ?_
    refine be rfl ?_
    refine k_then ?_
    refine t_seq ?_
    refine b0 ?_
    refine o1 rfl (det_move rfl) rfl rfl trivial ?_
    refine o1 rfl (det_eql rfl rfl) rfl rfl trivial ?_
    refine o2P beq_iff_eq rfl (det_move rfl) rfl rfl trivial (fun hb => ?_) (fun hb => ?_)
    rotate_left
    · exfalso; first | exact hb rfl | (simp at hb; done) | (revert hb; decide)
    refine o1 rfl (det_move rfl) rfl rfl ⟨_, rfl, rfl⟩ ?_
    refine o1 rfl (det_eql rfl rfl) rfl rfl ⟨_, rfl, rfl⟩ ?_
    refine o1 rfl (det_pickT rfl rfl) rfl rfl trivial ?_
    refine o2P beq_iff_eq rfl (det_move rfl) rfl rfl trivial (fun hb => ?_) (fun hb => ?_)
    rotate_left
    · exfalso; first | exact hb rfl | (simp at hb; done) | (revert hb; decide)
    refine o1 rfl (det_move rfl) rfl rfl ⟨_, rfl, rfl⟩ ?_
    refine o1 rfl (det_not rfl) rfl rfl ⟨_, rfl, rfl⟩ ?_
    refine o1 rfl (det_pickT rfl rfl) rfl rfl trivial ?_
    refine o2P not_iff_false rfl (det_move rfl) rfl rfl trivial (fun hb => ?_) (fun hb => ?_)
    rotate_left
    · exfalso; first | exact hb rfl | (simp at hb; done) | (revert hb; decide)
    refine o1 rfl (det_move rfl) rfl rfl ⟨_, rfl, rfl⟩ ?_
    refine o1 rfl (det_pickT rfl rfl) rfl rfl trivial ?_
    refine o1 rfl (det_assign rfl) rfl rfl trivial ?_
    refine be rfl ?_
    refine k_then ?_
    refine t_ret ?_
    refine ret_tmp rfl rfl rfl (fun w1 hs => ?_)
    exact ⟨rfl, hs.keep⟩

end Go.Proofs.Rc
