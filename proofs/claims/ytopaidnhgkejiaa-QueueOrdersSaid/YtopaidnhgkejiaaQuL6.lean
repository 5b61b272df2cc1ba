/-
  Walks through layer 36 and its reference.
-/
import Derived.Test.YtopaidnhgkejiaaQuL0
import Derived.Test.YtopaidnhgkejiaaQuPlain2
namespace Go.Proofs.Qu
open Go Go.Eng Go.Qu
set_option maxRecDepth 4000

/-- QueueOrders. -/
theorem orders_ok {w : World} {F : Know} (hF : ∀ a v, F a = some v → w.cell? a = some v) {cap : Int} (hc : 0 ≤ cap ∧ cap ≤ 65535) {B : Option Addr} {m d : Nat} {ss : List St} (hS : RowsK stv 6 F B m ss) (hmd : m ≤ d) (hr : ∀ x ∈ ss, St.rng x) : Pure Try.prog 6 [.int .u16 cap, .slice B m d] w (.bool true) := by
  refine fn_pure (F := F) Try.func6 rfl Try.ntmps6 rfl hF ?_
  refine t_seq ?_
  refine b0 ?_
  refine o1 rfl (det_assign rfl) rfl rfl trivial ?_
  refine be rfl ?_
  refine k_then ?_
  refine t_seq ?_
  refine t_seq ?_
  refine b0 ?_
  refine o1 rfl (det_call hb9 rfl rfl (fun w1 hs => wakes_ok hs.know)) rfl rfl trivial ?_
  refine o1 rfl (det_not rfl) rfl rfl trivial ?_
  refine be rfl ?_
  refine k_then ?_
  refine t_condP not_iff_false rfl (fun hb => ?_) (fun hb => ?_)
  · exfalso; simp at hb
  refine t_skip ?_
  refine k_then ?_
  refine t_seq ?_
  refine b0 ?_
  refine o1 rfl (det_move rfl) rfl rfl trivial ?_
  skip
  first | (refine o1 rfl (det_convW Try.underlying57 Try.underlying3 rfl ?_) rfl rfl trivial ?_; (· exact IntWalk.i64_in _ (by omega))) | refine o1 rfl (det_conv Try.underlying57 Try.underlying3 rfl) rfl rfl trivial ?_
  refine o1 rfl (det_call hb19 rfl rfl (fun w1 hs => new_at hs.know (by omega))) rfl rfl trivial ?_
  refine o1 rfl (det_move rfl) rfl rfl trivial ?_
  refine o1 rfl (det_extract rfl rfl) rfl rfl trivial ?_
  refine o1 rfl (det_extract rfl rfl) rfl rfl trivial ?_
  refine om1 rfl (new_alloc z24) rfl rfl trivial (fun p5 => ?_)
  refine stN nofun rfl tN24 rfl rfl rfl .head rfl trivial rfl rfl ?_
  refine o1 rfl (det_assign rfl) rfl rfl trivial ?_
  refine be rfl ?_
  refine k_then ?_
  refine t_seq ?_
  refine t_seq ?_
  refine b0 ?_
  refine o1 rfl (det_move rfl) rfl rfl trivial ?_
  refine o1 rfl (det_neq rfl rfl) rfl rfl trivial ?_
  refine be rfl ?_
  refine k_then ?_
  refine t_condP bne_iff_ne rfl (fun hb => ?_) (fun hb => ?_)
  · exfalso; exact hb rfl
  refine t_skip ?_
  refine k_then ?_
  refine t_seq ?_
  refine b0 ?_
  refine o1 rfl (det_assign rfl) rfl rfl trivial ?_
  refine o1 rfl (det_assign rfl) rfl rfl trivial ?_
  refine be rfl ?_
  refine k_then ?_
  refine t_seq ?_
  refine t_seq ?_
  refine b0 ?_
  refine o1 rfl (det_move rfl) rfl rfl trivial ?_
  refine o1 rfl (det_move rfl) rfl rfl trivial ?_
  refine o1 rfl (det_lenS sl58 rfl) rfl rfl trivial ?_
  refine o1 rfl (det_min2 rfl rfl) rfl rfl trivial ?_
  first | (refine o1 rfl (det_sliceTo sl58 rfl rfl ?_) rfl rfl trivial ?_; (· omega))
  have hsl := hS.len
  obtain ⟨N, hN⟩ : ∃ N, (min (m : Int) 40).toNat = N := ⟨_, rfl⟩
  rw [hN]
  have hNm : N ≤ m := by omega
  have hN40 : N ≤ 40 := by omega
  refine o1 rfl (det_lenS sl58 rfl) rfl rfl trivial ?_
  refine o1 rfl (det_move rfl) rfl rfl trivial ?_
  refine be rfl ?_
  refine k_then ?_
  refine t_block ?_
  refine t_whileK (σ := OS) (fun s => [(7, .slice s.ai s.ins.length s.ci), (8, .slice s.ao s.k s.co), (37, .int .i64 s.i)]) (fun s => s.F) (fun s => [(p5, .cells [.int .i64 cap, .slice s.A s.n s.c].toArray 24 (0, 0))] ++ (s.bi ++ s.bo)) (fun s => N - s.i) (fun s => OSok F cap N s) ⟨F, 0, none, 0, 0, [], [], 0, none, 0, none, 0, [], []⟩ (env0 := [(0, _), (5, _), (35, _), (36, _)]) (OSok.start (by omega)) incl_refl ⟨rfl, rfl, rfl, trivial⟩ ⟨rfl, rfl, rfl, rfl, trivial⟩ (.refl _) ?_
  rintro s hO
  refine t_seq ?_
  refine b0 ?_
  refine o1 rfl (det_lss rfl rfl) rfl rfl trivial ?_
  refine be rfl ?_
  refine k_then ?_
  refine t_seq ?_
  refine t_condP decide_eq_true_iff rfl (fun hb => ?_) (fun hb => ?_)
  ·
    have hlt : s.i < N := by omega
    have hlt2 : s.i < ss.length := by omega
    have hS2 := hS.mono hO.F
    obtain ⟨B, rfl⟩ := hS2.some hlt2
    have hnq := hO.q.len
    have hlq := hO.len
    have hki := hO.k
    have hli := hO.l
    have hiN := hO.i
    have hqb : s.n ≤ 65536 := by omega
    have hV : validP s.qs = true := (right_iff.1 hO.r).2.1
    have hob := octs_bd hV
    refine t_skip ?_
    refine k_then ?_
    refine t_seq ?_
    refine t_block ?_
    refine t_seq ?_
    refine b0 ?_
    first | (refine o1 rfl (det_indexAddr sl58 rfl rfl ?_) rfl rfl trivial ?_; (· (first | decide | omega)))
    refine o1 rfl (det_loadKN tN61 rfl (stv_len ss[s.i]) (hS2.cells (i := (s.i : Int)) (k := s.i) (Int.toNat_natCast s.i) hlt2 (stv_len _))) rfl rfl trivial ?_
    refine om1 rfl (new_alloc z61) rfl rfl trivial (fun p10 => ?_)
    refine stN nofun rfl tN61 rfl rfl rfl .head rfl trivial rfl rfl ?_
    refine be rfl ?_
    refine k_then ?_
    refine t_seq ?_
    refine t_seq ?_
    refine b0 ?_
    refine o1 rfl (det_fieldAddr fld61_0 rfl) rfl rfl trivial ?_
    refine o1 rfl (det_load1 t1_5 rfl rfl (.head _) rfl) rfl rfl trivial ?_
    first | (refine o1 rfl (det_remP rfl rfl ?_) rfl rfl trivial ?_; (· omega)) | (refine o1 rfl (det_rem rfl rfl ?_) rfl rfl trivial ?_; (· (first | decide | omega)))
    refine o1 rfl (det_eql rfl rfl) rfl rfl trivial ?_
    refine be rfl ?_
    refine k_then ?_
    refine t_condP beq_iff_eq rfl (fun hb => ?_) (fun hb => ?_)
    ·
      obtain ⟨r1, r2, rp, re, hpq⟩ : ∃ r1 r2 rp re, popQ cap s.qs = ((r1, r2), rp, re) := ⟨_, _, _, _, rfl⟩
      refine t_seq ?_
      refine b0 ?_
      refine o1 rfl (det_loadN tN24 rfl rfl (.tail _ (.head _)) rfl) rfl rfl trivial ?_
      refine oF nofun rfl hb24 rfl rfl rfl trivial (fun w1 hs => pop_at hs.know hO.q hqb hO.hn hO.hm hpq) (fun v1 F1 hF1 hN1 ⟨A1, n1, c1, hv, hn1, hm1, hP1⟩ => ?_)
      subst hv
      refine o1 rfl (det_move rfl) rfl rfl trivial ?_
      refine o1 rfl (det_extract rfl rfl) rfl rfl trivial ?_
      refine o1 rfl (det_extract rfl rfl) rfl rfl trivial ?_
      refine o1 rfl (det_extract rfl rfl) rfl rfl trivial ?_
      refine om1 rfl (new_alloc z24) rfl rfl trivial (fun p11 => ?_)
      refine om1 rfl (new_alloc z28) rfl rfl trivial (fun p12 => ?_)
      refine stN nofun rfl tN24 rfl rfl rfl (.tail .head) rfl trivial rfl rfl ?_
      refine stN nofun rfl tN28 rfl rfl rfl .head rfl trivial rfl rfl ?_
      refine o1 rfl (det_assign rfl) rfl rfl trivial ?_
      refine be rfl ?_
      refine k_then ?_
      refine t_seq ?_
      refine t_seq ?_
      refine b0 ?_
      refine o1 rfl (det_move rfl) rfl rfl trivial ?_
      refine o1 rfl (det_neq rfl rfl) rfl rfl trivial ?_
      refine be rfl ?_
      refine k_then ?_
      refine t_condP bne_iff_ne rfl (fun hb => ?_) (fun hb => ?_)
      ·
        rcases pop_cases hO.r hpq with ⟨rfl, hz⟩ | rfl
        rotate_left
        · exact absurd rfl hb
        skip --note:stay
        refine t_seq ?_
        refine t_seq ?_
        refine t_merge (env0 := [(0, _), (5, _), (7, _), (8, _), (10, _), (11, _), (12, _), (35, _), (36, _), (37, _)]) ⟨rfl, rfl, rfl, rfl, rfl, rfl, rfl, rfl, rfl, rfl, trivial⟩ 61 (.bool false) ?_ (fun hK => ?_)
        ·
          refine k_then ?_
          refine t_condF rfl ?_
          refine t_skip ?_
          refine k_then ?_
          refine t_exit ?_
          refine k_thenE ?_
          refine k_thenE ?_
          refine k_blkE ?_
          refine k_then ?_
          refine b0 ?_
          first | (refine o1 rfl (det_addI rfl rfl ?_) rfl rfl trivial ?_; (· omega)) | refine o1 rfl (det_add rfl rfl) rfl rfl trivial ?_
          refine o1 rfl (det_move rfl) rfl rfl trivial ?_
          refine be rfl ?_
          refine k_then ?_
          refine loop_backK { s with F := F1, i := s.i + 1 } (hO.stay (by omega) hF1) (by simp only; omega) incl_refl ⟨rfl, rfl, rfl, rfl, rfl, rfl, rfl, trivial⟩ (.cons _ (.cons _ (.cons _ (.refl _))))
        ·
          refine b0 ?_
          refine o1 rfl (det_move rfl) rfl rfl trivial ?_
          refine o1 rfl (det_neq rfl rfl) rfl rfl trivial ?_
          refine o2P bne_iff_ne rfl (det_move rfl) rfl rfl trivial (fun hb => ?_) (fun hb => ?_)
          ·
            refine on rfl rfl rfl ⟨_, rfl, .inl rfl⟩ ?_
            refine on rfl rfl rfl ⟨_, rfl, .inl rfl⟩ ?_
            refine on rfl rfl rfl ⟨_, rfl, .inl rfl⟩ ?_
            refine on rfl rfl rfl ⟨_, rfl, .inl rfl⟩ ?_
            refine on rfl rfl rfl ⟨_, rfl, .inl rfl⟩ ?_
            refine o1 rfl (det_pickT rfl rfl) rfl rfl trivial ?_
            refine be rfl ?_
            refine tk_drop ?_ (.refl _) hK
            exact ⟨(mb rfl (by first | rfl | (exfalso; exact hb rfl) | (exfalso; simp at hb; done) | grind)), rfl, rfl, rfl, rfl, rfl, rfl, rfl, rfl, rfl, rfl, trivial⟩
          ·
            refine o1 rfl (det_move rfl) rfl rfl ⟨_, rfl, rfl⟩ ?_
            refine o1 rfl (det_lenS sl59 rfl) rfl rfl ⟨_, rfl, rfl⟩ ?_
            refine o1 rfl (det_move rfl) rfl rfl ⟨_, rfl, rfl⟩ ?_
            refine o1 rfl (det_lenS sl59 rfl) rfl rfl ⟨_, rfl, rfl⟩ ?_
            refine o1 rfl (det_neq rfl rfl) rfl rfl ⟨_, rfl, rfl⟩ ?_
            refine o1 rfl (det_pickF rfl rfl) rfl rfl trivial ?_
            refine be rfl ?_
            refine tk_drop ?_ (.refl _) hK
            exact ⟨(mb rfl (by first | rfl | (exfalso; exact hb rfl) | (exfalso; simp at hb; done) | grind)), rfl, rfl, rfl, rfl, rfl, rfl, rfl, rfl, rfl, rfl, trivial⟩
      ·
        rcases pop_cases hO.r hpq with ⟨rfl, hz⟩ | rfl
        · exact absurd (by decide) hb
        obtain ⟨hp1, rfl, hp3, hp4, hp5, hp6, hp7⟩ := pop_right hpq
        obtain ⟨hk, he1, he2⟩ := hO.head hp5
        skip --note:popd
        refine t_skip ?_
        refine k_then ?_
        refine t_seq ?_
        refine t_seq ?_
        refine t_merge (env0 := [(0, _), (5, _), (7, _), (8, _), (10, _), (11, _), (12, _), (35, _), (36, _), (37, _)]) ⟨rfl, rfl, rfl, rfl, rfl, rfl, rfl, rfl, rfl, rfl, trivial⟩ 71 (.bool false) ?_ (fun hK => ?_)
        ·
          refine k_then ?_
          refine t_condF rfl ?_
          refine t_skip ?_
          refine k_then ?_
          refine t_seq ?_
          refine bD mixed ?_
          refine r_bar 8 5 [4] [0, 1, 2, 3, 4] _ (by kernel_rfl) ((List.sublist_append_left s.bi _).append_left [_, _, _, _]) ?_
          refine s1 rfl (det_loadN tN24 rfl rfl (.tail _ (.head _)) rfl) rfl rfl trivial rfl ?_
          refine s1 rfl (det_move rfl) rfl rfl trivial rfl ?_
          refine s1 rfl (det_fieldAddr fld28_0 rfl) rfl rfl trivial rfl ?_
          refine s1 rfl (det_loadN tN26 rfl rfl (.head _) rfl) rfl rfl trivial rfl ?_
          refine sm1 rfl (new_buildSlice rfl (fun w => bsl59_1_0 _ _ _ _ _ w)) rfl rfl trivial rfl (fun p76 => ?_)
          refine sg_nil ⟨?_, ?_⟩
          rotate_left
          ·
            try simp only [ownsI, List.cons_append, List.nil_append]
            simp only [← List.cons_append]
            exact bar_app (pre := _) (b := s.bo) (m := 1) (news := itv rp.it) rfl ap59 rfl rfl trivial hO.so rfl (fun w1 hs j u hj => hs.cellO (.head _) hj) (by intro u hu; simp only [itv, List.mem_cons, List.not_mem_nil, or_false] at hu; rcases hu with rfl | rfl | rfl | rfl | rfl <;> rfl) (by omega) (by simp only [maxLen]; omega) (fun i hi => by have hi2 := hi; simp only [idsO, List.map_cons, List.map_append, List.mem_cons, List.mem_append] at hi2 ⊢; simp only [hi2, or_true]) (.refl _)
          try simp only [ownsI, List.cons_append, List.nil_append]
          simp only [← List.cons_append]
          refine oAppS (pre := _) (b := s.bo) (m := 1) (news := itv rp.it) (fun _ => by kernel_rfl) rfl ap59 rfl rfl rfl trivial hO.so rfl (fun w1 hs j u hj => hs.cellO (.head _) hj) (by intro u hu; simp only [itv, List.mem_cons, List.not_mem_nil, or_false] at hu; rcases hu with rfl | rfl | rfl | rfl | rfl <;> rfl) (by omega) (by simp only [maxLen]; omega) (fun A8 c8 b8 hS8 => ?_)
          refine stN (fun _ => by kernel_rfl) rfl tN24 rfl rfl rfl (.tail (.tail (.tail (.tail .head)))) rfl trivial rfl rfl ?_
          refine r_seg 8 8 [] [7] (by kernel_rfl) ?_
          refine s1 rfl (det_assign rfl) rfl rfl trivial rfl ?_
          refine sg_nil ?_
          refine be rfl ?_
          refine k_then ?_
          refine t_exit ?_
          refine k_thenE ?_
          refine k_blkE ?_
          refine k_then ?_
          refine b0 ?_
          first | (refine o1 rfl (det_addI rfl rfl ?_) rfl rfl trivial ?_; (· omega)) | refine o1 rfl (det_add rfl rfl) rfl rfl trivial ?_
          refine o1 rfl (det_move rfl) rfl rfl trivial ?_
          refine be rfl ?_
          refine k_then ?_
          refine loop_backK { s with F := F1, i := s.i + 1, A := A1, n := n1, c := c1, qs := r2, k := s.k + 1, ao := A8, co := c8, bo := b8 } (hO.pop (by omega) hF1 hp5 hp3 hP1 hn1 hm1 hS8) (by simp only; omega) incl_refl ⟨rfl, rfl, rfl, rfl, rfl, rfl, rfl, trivial⟩ (.cons _ (.cons _ (.cons _ (.cons _ (.refl _)))))
        ·
          refine b0 ?_
          refine o1 rfl (det_fieldAddr fld28_2 rfl) rfl rfl trivial ?_
          refine o1 rfl (det_load1 t1_4 rfl rfl (.head _) rfl) rfl rfl trivial ?_
          refine o2P Iff.rfl rfl (det_move rfl) rfl rfl trivial (fun hb => ?_) (fun hb => ?_)
          ·
            refine on rfl rfl rfl ⟨_, rfl, .inl rfl⟩ ?_
            refine on rfl rfl rfl ⟨_, rfl, .inl rfl⟩ ?_
            refine on rfl rfl rfl ⟨_, rfl, .inl rfl⟩ ?_
            refine on rfl rfl rfl ⟨_, rfl, .inl rfl⟩ ?_
            refine on rfl rfl rfl ⟨_, rfl, .inl rfl⟩ ?_
            refine on rfl rfl rfl ⟨_, rfl, .inl rfl⟩ ?_
            refine o1 rfl (det_pickT rfl rfl) rfl rfl trivial ?_
            refine be rfl ?_
            refine tk_drop ?_ (.refl _) hK
            exact ⟨(mb rfl (by first | rfl | (exfalso; simp [he1, whole] at hb; done) | grind [whole])), rfl, rfl, rfl, rfl, rfl, rfl, rfl, rfl, rfl, rfl, trivial⟩
          ·
            refine o1 rfl (det_fieldAddr fld28_1 rfl) rfl rfl ⟨_, rfl, rfl⟩ ?_
            refine o1 rfl (det_load1 t1_3 rfl rfl (.head _) rfl) rfl rfl ⟨_, rfl, rfl⟩ ?_
            refine o1 rfl (det_fieldAddr fld28_0 rfl) rfl rfl ⟨_, rfl, rfl⟩ ?_
            refine o1 rfl (det_fieldAddr fld26_3 rfl) rfl rfl ⟨_, rfl, rfl⟩ ?_
            refine o1 rfl (det_load1 t1_3 rfl rfl (.head _) rfl) rfl rfl ⟨_, rfl, rfl⟩ ?_
            refine o1 rfl (det_neq rfl rfl) rfl rfl ⟨_, rfl, rfl⟩ ?_
            refine o1 rfl (det_pickF rfl rfl) rfl rfl trivial ?_
            refine be rfl ?_
            refine tk_drop ?_ (.refl _) hK
            exact ⟨(mb rfl (by first | rfl | (exfalso; simp [he1, whole] at hb; done) | grind [whole])), rfl, rfl, rfl, rfl, rfl, rfl, rfl, rfl, rfl, rfl, trivial⟩
    ·
      obtain ⟨r1, r2, rb, re, hpq⟩ : ∃ r1 r2 rb re, pushQ cap s.qs ss[s.i].it = ((r1, r2), rb, re) := ⟨_, _, _, _, rfl⟩
      have hpl := push_len hpq
      refine t_skip ?_
      refine k_then ?_
      refine t_seq ?_
      refine b0 ?_
      refine o1 rfl (det_loadN tN24 rfl rfl (.tail _ (.head _)) rfl) rfl rfl trivial ?_
      refine o1 rfl (det_call hb17 rfl rfl (fun w1 hs => octets_at hs.know hO.q hqb (show _ = (octs s.qs, (0 : Int)) by rw [if_pos hO.r]))) rfl rfl trivial ?_
      refine o1 rfl (det_move rfl) rfl rfl trivial ?_
      refine o1 rfl (det_extract rfl rfl) rfl rfl trivial ?_
      refine o1 rfl (det_extract rfl rfl) rfl rfl trivial ?_
      refine o1 rfl (det_assign rfl) rfl rfl trivial ?_
      refine o1 rfl (det_assign rfl) rfl rfl trivial ?_
      refine be rfl ?_
      refine k_then ?_
      refine t_seq ?_
      refine b0 ?_
      refine o1 rfl (det_loadN tN24 rfl rfl (.tail _ (.head _)) rfl) rfl rfl trivial ?_
      refine o1 rfl (det_fieldAddr fld61_1 rfl) rfl rfl trivial ?_
      refine o1 rfl (det_loadN tN26 rfl rfl (.head _) rfl) rfl rfl trivial ?_
      refine oF nofun rfl hb21 rfl rfl rfl trivial (fun w1 hs => push_at hs.know hO.q hqb hO.hn hO.hm hpq) (fun v2 F2 hF2 hN2 ⟨A2, n2, c2, hv, hn2, hm2, hP2⟩ => ?_)
      subst hv
      refine o1 rfl (det_move rfl) rfl rfl trivial ?_
      refine o1 rfl (det_extract rfl rfl) rfl rfl trivial ?_
      refine o1 rfl (det_extract rfl rfl) rfl rfl trivial ?_
      refine o1 rfl (det_extract rfl rfl) rfl rfl trivial ?_
      refine om1 rfl (new_alloc z24) rfl rfl trivial (fun p16 => ?_)
      refine stN nofun rfl tN24 rfl rfl rfl .head rfl trivial rfl rfl ?_
      refine o1 rfl (det_assign rfl) rfl rfl trivial ?_
      refine o1 rfl (det_assign rfl) rfl rfl trivial ?_
      refine be rfl ?_
      refine k_then ?_
      refine t_seq ?_
      refine t_seq ?_
      refine b0 ?_
      refine o1 rfl (det_move rfl) rfl rfl trivial ?_
      refine o1 rfl (det_neq rfl rfl) rfl rfl trivial ?_
      refine be rfl ?_
      refine k_then ?_
      refine t_condP bne_iff_ne rfl (fun hb => ?_) (fun hb => ?_)
      ·
        rcases push_cases hO.r hpq with ⟨rfl, hz⟩ | rfl
        rotate_left
        · exact absurd rfl hb
        skip --note:bad
        refine t_seq ?_
        refine t_seq ?_
        refine t_merge (env0 := [(0, _), (5, _), (7, _), (8, _), (10, _), (14, _), (15, _), (16, _), (17, _), (35, _), (36, _), (37, _)]) ⟨rfl, rfl, rfl, rfl, rfl, rfl, rfl, rfl, rfl, rfl, rfl, rfl, trivial⟩ 100 (.bool false) ?_ (fun hK => ?_)
        ·
          refine k_then ?_
          refine t_condF rfl ?_
          refine t_skip ?_
          refine k_then ?_
          refine t_exit ?_
          refine k_thenE ?_
          refine k_blkE ?_
          refine k_then ?_
          refine b0 ?_
          first | (refine o1 rfl (det_addI rfl rfl ?_) rfl rfl trivial ?_; (· omega)) | refine o1 rfl (det_add rfl rfl) rfl rfl trivial ?_
          refine o1 rfl (det_move rfl) rfl rfl trivial ?_
          refine be rfl ?_
          refine k_then ?_
          refine loop_backK { s with F := F2, i := s.i + 1 } (hO.stay (by omega) hF2) (by simp only; omega) incl_refl ⟨rfl, rfl, rfl, rfl, rfl, rfl, rfl, trivial⟩ (.cons _ (.cons _ (.refl _)))
        ·
          refine b0 ?_
          refine o1 rfl (det_move rfl) rfl rfl trivial ?_
          refine o1 rfl (det_neq rfl rfl) rfl rfl trivial ?_
          refine o2P bne_iff_ne rfl (det_move rfl) rfl rfl trivial (fun hb => ?_) (fun hb => ?_)
          ·
            refine on rfl rfl rfl ⟨_, rfl, .inl rfl⟩ ?_
            refine on rfl rfl rfl ⟨_, rfl, .inl rfl⟩ ?_
            refine on rfl rfl rfl ⟨_, rfl, .inl rfl⟩ ?_
            refine on rfl rfl rfl ⟨_, rfl, .inl rfl⟩ ?_
            refine o1 rfl (det_pickT rfl rfl) rfl rfl trivial ?_
            refine be rfl ?_
            refine tk_drop ?_ (.refl _) hK
            exact ⟨(mb rfl (by first | rfl | (exfalso; exact hb rfl) | (exfalso; simp at hb; done) | grind)), rfl, rfl, rfl, rfl, rfl, rfl, rfl, rfl, rfl, rfl, rfl, rfl, trivial⟩
          ·
            refine o1 rfl (det_fieldAddr fld61_1 rfl) rfl rfl ⟨_, rfl, rfl⟩ ?_
            refine o1 rfl (det_loadN tN26 rfl rfl (.tail _ (.head _)) rfl) rfl rfl ⟨_, rfl, rfl⟩ ?_
            refine o1 rfl (det_call hb15 rfl rfl (fun w1 hs => citem_ok hs.know)) rfl rfl ⟨_, rfl, rfl⟩ ?_
            refine o1 rfl (det_neq rfl rfl) rfl rfl ⟨_, rfl, rfl⟩ ?_
            refine o1 rfl (det_pickF rfl rfl) rfl rfl trivial ?_
            refine be rfl ?_
            refine tk_drop ?_ (.refl _) hK
            exact ⟨(mb rfl (by first | rfl | (exfalso; exact hb rfl) | (exfalso; simp at hb; done) | grind)), rfl, rfl, rfl, rfl, rfl, rfl, rfl, rfl, rfl, rfl, rfl, rfl, trivial⟩
      ·
        rcases push_cases hO.r hpq with ⟨rfl, hz⟩ | rfl
        · exact absurd (by decide) hb
        obtain ⟨hp1, hpc, hp3, hp4, hp5, hp6, hp7⟩ := push_right hpq
        subst hpc
        have hsz : 84 ≤ ss[s.i].it.sz ∧ ss[s.i].it.sz ≤ 1542 := by grind [okI]
        refine t_skip ?_
        refine k_then ?_
        refine t_seq ?_
        refine t_seq ?_
        refine t_merge (env0 := [(0, _), (5, _), (7, _), (8, _), (10, _), (16, _), (17, _), (35, _), (36, _), (37, _)]) ⟨rfl, rfl, rfl, rfl, rfl, rfl, rfl, rfl, rfl, rfl, trivial⟩ 114 (.bool false) ?_ (fun hK => ?_)
        ·
          refine k_then ?_
          refine t_condF rfl ?_
          refine t_skip ?_
          refine k_then ?_
          refine t_seq ?_
          refine b0 ?_
          refine o1 rfl (det_loadN tN24 rfl rfl (.head _) rfl) rfl rfl trivial ?_
          refine stN nofun rfl tN24 rfl rfl rfl (.tail (.tail .head)) rfl trivial rfl rfl ?_
          refine be rfl ?_
          refine k_then ?_
          refine t_seq ?_
          refine b0 ?_
          refine o1 rfl (det_move rfl) rfl rfl trivial ?_
          refine be rfl ?_
          refine k_then ?_
          refine t_condP Iff.rfl rfl (fun hb => ?_) (fun hb => ?_)
          ·
            have hrb : rb = true := hb
            subst hrb
            rw [if_pos rfl] at hp6
            subst hp6
            skip --note:psh
            refine b0 ?_
            refine o1 rfl (det_move rfl) rfl rfl trivial ?_
            refine o1 rfl (det_fieldAddr fld61_1 rfl) rfl rfl trivial ?_
            refine o1 rfl (det_loadN tN26 rfl rfl (.tail _ (.head _)) rfl) rfl rfl trivial ?_
            refine om1 rfl (new_buildSlice rfl (fun w => bsl59_1_0 _ _ _ _ _ w)) rfl rfl trivial (fun p120 => ?_)
            refine oApp (pre := [_, _, _, _]) (b := s.bi) (post := s.bo) (m := 1) (news := itv ss[s.i].it) nofun rfl ap59 rfl rfl rfl trivial hO.si rfl (fun w1 hs j u hj => hs.cellO (.head _) hj) (by intro u hu; simp only [itv, List.mem_cons, List.not_mem_nil, or_false] at hu; rcases hu with rfl | rfl | rfl | rfl | rfl <;> rfl) (by omega) (by simp only [maxLen]; omega) (fun A7 c7 b7 hS7 => ?_)
            refine o1 rfl (det_assign rfl) rfl rfl trivial ?_
            refine be rfl ?_
            refine k_blk ?_
            refine k_then ?_
            refine b0 ?_
            first | (refine o1 rfl (det_addI rfl rfl ?_) rfl rfl trivial ?_; (· omega)) | refine o1 rfl (det_add rfl rfl) rfl rfl trivial ?_
            refine o1 rfl (det_move rfl) rfl rfl trivial ?_
            refine be rfl ?_
            refine k_then ?_
            refine loop_backK { s with F := F2, i := s.i + 1, A := A2, n := n2, c := c2, qs := s.qs ++ [whole ss[s.i].it], ins := s.ins ++ [ss[s.i].it], ai := A7, ci := c7, bi := b7 } (hO.push (by omega) hF2 hp3 hP2 hn2 hm2 hS7) (by simp only; omega) incl_refl ⟨(by simp only [List.length_append, List.length_cons, List.length_nil]; rfl), rfl, rfl, rfl, rfl, rfl, rfl, trivial⟩ (.cons _ (.cons _ (.cons _ (.refl _))))
          ·
            have hrb : rb = false := by simpa using hb
            subst hrb
            simp only [Bool.false_eq_true, if_false] at hp6
            subst hp6
            refine t_skip ?_
            refine k_blk ?_
            refine k_then ?_
            refine b0 ?_
            first | (refine o1 rfl (det_addI rfl rfl ?_) rfl rfl trivial ?_; (· omega)) | refine o1 rfl (det_add rfl rfl) rfl rfl trivial ?_
            refine o1 rfl (det_move rfl) rfl rfl trivial ?_
            refine be rfl ?_
            refine k_then ?_
            refine loop_backK { s with F := F2, i := s.i + 1, A := A2, n := n2, c := c2 } (hO.same (by omega) hF2 hP2 hn2 hm2) (by simp only; omega) incl_refl ⟨rfl, rfl, rfl, rfl, rfl, rfl, rfl, trivial⟩ (.cons _ (.cons _ (.refl _)))
        ·
          refine b0 ?_
          refine o1 rfl (det_move rfl) rfl rfl trivial ?_
          refine o1 rfl (det_neq rfl rfl) rfl rfl trivial ?_
          refine o2P bne_iff_ne rfl (det_move rfl) rfl rfl trivial (fun hb => ?_) (fun hb => ?_)
          ·
            refine on rfl rfl rfl ⟨_, rfl, .inl rfl⟩ ?_
            refine on rfl rfl rfl ⟨_, rfl, .inl rfl⟩ ?_
            refine on rfl rfl rfl ⟨_, rfl, .inl rfl⟩ ?_
            refine on rfl rfl rfl ⟨_, rfl, .inl rfl⟩ ?_
            refine on rfl rfl rfl ⟨_, rfl, .inl rfl⟩ ?_
            refine on rfl rfl rfl ⟨_, rfl, .inl rfl⟩ ?_
            refine on rfl rfl rfl ⟨_, rfl, .inl rfl⟩ ?_
            refine on rfl rfl rfl ⟨_, rfl, .inl rfl⟩ ?_
            refine on rfl rfl rfl ⟨_, rfl, .inl rfl⟩ ?_
            refine on rfl rfl rfl ⟨_, rfl, .inl rfl⟩ ?_
            refine o1 rfl (det_pickT rfl rfl) rfl rfl trivial ?_
            refine be rfl ?_
            refine tk_drop ?_ (.refl _) hK
            exact ⟨(mb rfl (by first | rfl | (exfalso; exact hb rfl) | (exfalso; simp at hb; done) | grind)), rfl, rfl, rfl, rfl, rfl, rfl, rfl, rfl, rfl, rfl, trivial⟩
          ·
            refine o1 rfl (det_move rfl) rfl rfl ⟨_, rfl, rfl⟩ ?_
            refine o1 rfl (det_move rfl) rfl rfl ⟨_, rfl, rfl⟩ ?_
            refine o1 rfl (det_fieldAddr fld61_1 rfl) rfl rfl ⟨_, rfl, rfl⟩ ?_
            refine o1 rfl (det_fieldAddr fld26_3 rfl) rfl rfl ⟨_, rfl, rfl⟩ ?_
            refine o1 rfl (det_load1 t1_3 rfl rfl (.tail _ (.head _)) rfl) rfl rfl ⟨_, rfl, rfl⟩ ?_
            first | (refine o1 rfl (det_addI rfl rfl ?_) rfl rfl ⟨_, rfl, rfl⟩ ?_; (· omega)) | refine o1 rfl (det_add rfl rfl) rfl rfl ⟨_, rfl, rfl⟩ ?_
            refine o1 rfl (det_move rfl) rfl rfl ⟨_, rfl, rfl⟩ ?_
            first | (refine o1 rfl (det_convW Try.underlying57 Try.underlying3 rfl ?_) rfl rfl ⟨_, rfl, rfl⟩ ?_; (· exact IntWalk.i64_in _ (by omega))) | refine o1 rfl (det_conv Try.underlying57 Try.underlying3 rfl) rfl rfl ⟨_, rfl, rfl⟩ ?_
            refine o1 rfl (det_leq rfl rfl) rfl rfl ⟨_, rfl, rfl⟩ ?_
            refine o1 rfl (det_neqB Try.underlying4 rfl rfl) rfl rfl ⟨_, rfl, rfl⟩ ?_
            refine o1 rfl (det_pickF rfl rfl) rfl rfl trivial ?_
            refine be rfl ?_
            refine tk_drop ?_ (.refl _) hK
            exact ⟨(mb rfl (by first | rfl | (exfalso; exact hb rfl) | (exfalso; simp at hb; done) | grind)), rfl, rfl, rfl, rfl, rfl, rfl, rfl, rfl, rfl, rfl, trivial⟩
  ·
    have hie : s.i = N := by have := hO.i; omega
    refine t_exit ?_
    refine k_thenE ?_
    refine k_thenE ?_
    refine k_blkE ?_
    refine k_then ?_
    refine t_seq ?_
    refine t_seq ?_
    refine b0 ?_
    refine tk_freezeS (pre := [_]) hO.si rfl (fun Fi hFi hNi hKi => ?_)
    refine tk_freezeL (pre := [_]) hO.so rfl (fun Fo hFo hNo hKo => ?_)
    have hRi : RowsK itv 5 Fo s.ai s.ins.length s.ins := rowsK_of itv_len (by decide) (fun j u hj => by obtain ⟨a, ha, h⟩ := hKi j u hj; exact ⟨a, ha, hFo _ _ h⟩) rfl
    have hRo : RowsK itv 5 Fo s.ao s.k (s.ins.take s.k) := rowsK_of itv_len (by decide) hKo (by rw [List.length_take]; have := hO.k; omega)
    have hQ := (hO.q.mono hFi).mono hFo
    have hk40 : s.k ≤ 40 := by have := hO.k; have := hO.l; have := hO.i; omega
    have hi40 : s.ins.length ≤ 40 := by have := hO.l; have := hO.i; omega
    have hq1 := hQ.len
    have hq2 := hO.len
    have hq3 := hO.k
    refine o1 rfl (det_move rfl) rfl rfl trivial ?_
    refine o1 rfl (det_lenS sl59 rfl) rfl rfl trivial ?_
    refine o1 rfl (det_move rfl) rfl rfl trivial ?_
    refine o1 rfl (det_lenS sl59 rfl) rfl rfl trivial ?_
    refine o1 rfl (det_gtr rfl rfl) rfl rfl trivial ?_
    refine be rfl ?_
    refine k_then ?_
    refine t_condP decide_eq_true_iff rfl (fun hb => ?_) (fun hb => ?_)
    · exfalso; have := hO.k; omega
    refine t_skip ?_
    refine k_then ?_
    refine t_seq ?_
    refine t_seq ?_
    refine b0 ?_
    refine o1 rfl (det_move rfl) rfl rfl trivial ?_
    refine o1 rfl (det_lenS sl59 rfl) rfl rfl trivial ?_
    refine o1 rfl (det_move rfl) rfl rfl trivial ?_
    refine be rfl ?_
    refine k_then ?_
    refine t_block ?_
    refine t_whileM (σ := Nat) (fun j => [(130, .int .i64 j)]) (fun _ => _) (fun j => s.k - j) (fun j => j ≤ s.k) 0 (env0 := [(5, _), (7, _), (8, _), (128, _), (129, _)]) (Nat.zero_le _) ⟨rfl, trivial⟩ ⟨rfl, rfl, rfl, rfl, rfl, trivial⟩ (.refl _) ?_
    rintro j hj
    refine t_seq ?_
    refine b0 ?_
    refine o1 rfl (det_lss rfl rfl) rfl rfl trivial ?_
    refine be rfl ?_
    refine k_then ?_
    refine t_seq ?_
    refine t_condP decide_eq_true_iff rfl (fun hb => ?_) (fun hb => ?_)
    ·
      have hlt3 : j < s.k := by omega
      have hto : j < (s.ins.take s.k).length := by rw [List.length_take]; omega
      have hti : j < s.ins.length := by omega
      obtain ⟨ao, hao⟩ := hRo.some hto
      obtain ⟨ai, hai⟩ := hRi.some hti
      rw [hao, hai]
      rw [hao] at hRo
      rw [hai] at hRi
      have hee : (s.ins.take s.k)[j] = s.ins[j] := by simp
      refine t_skip ?_
      refine k_then ?_
      refine t_seq ?_
      refine t_block ?_
      refine t_seq ?_
      refine b0 ?_
      refine o1 rfl (det_move rfl) rfl rfl trivial ?_
      first | (refine o1 rfl (det_indexAddr sl59 rfl rfl ?_) rfl rfl trivial ?_; (· (first | decide | omega)))
      refine o1 rfl (det_loadKN tN26 rfl (itv_len (s.ins.take s.k)[j]) (hRo.cells (i := (j : Int)) (k := j) (Int.toNat_natCast j) hto (itv_len _))) rfl rfl trivial ?_
      refine om1 rfl (new_alloc z26) rfl rfl trivial (fun p20 => ?_)
      refine o1 rfl (det_assign rfl) rfl rfl trivial ?_
      refine stN nofun rfl tN26 rfl rfl rfl .head rfl trivial rfl rfl ?_
      refine be rfl ?_
      refine k_then ?_
      refine t_seq ?_
      refine bD mixed ?_
      refine r_seg 6 6 [] [0, 1, 2, 3, 4, 5] (by kernel_rfl) ?_
      refine s1 rfl (det_loadN tN26 rfl rfl (.head _) rfl) rfl rfl trivial rfl ?_
      refine s1 rfl (det_move rfl) rfl rfl trivial rfl ?_
      refine s1 rfl (det_move rfl) rfl rfl trivial rfl ?_
      first | (refine s1 rfl (det_indexAddr sl59 rfl rfl ?_) rfl rfl trivial rfl ?_; (· (first | decide | omega)))
      refine s1 rfl (det_loadKN tN26 rfl (itv_len s.ins[j]) (hRi.cells (i := (j : Int)) (k := j) (Int.toNat_natCast j) hti (itv_len _))) rfl rfl trivial rfl ?_
      refine s1 rfl (det_neqS rfl rfl eqg26 (fun w => eq26 _ _ _ _ _ _ _ _ _ _ w)) rfl rfl trivial rfl ?_
      refine sg_nil ?_
      refine be rfl ?_
      refine k_then ?_
      refine t_condP Iff.rfl rfl (fun hb => ?_) (fun hb => ?_)
      · exfalso; rw [hee] at hb; simp at hb
      refine t_skip ?_
      refine k_blk ?_
      refine k_then ?_
      refine b0 ?_
      first | (refine o1 rfl (det_addI rfl rfl ?_) rfl rfl trivial ?_; (· omega)) | refine o1 rfl (det_add rfl rfl) rfl rfl trivial ?_
      refine o1 rfl (det_move rfl) rfl rfl trivial ?_
      refine be rfl ?_
      refine k_then ?_
      refine loop_back (j + 1) (by omega) (by omega) ⟨rfl, rfl, rfl, rfl, rfl, rfl, trivial⟩ (.cons _ (.refl _))
    ·
      skip
      refine t_exit ?_
      refine k_thenE ?_
      refine k_thenE ?_
      refine k_blkE ?_
      refine k_then ?_
      refine t_seq ?_
      refine b0 ?_
      refine o1 rfl (det_loadN tN24 rfl rfl (.head _) rfl) rfl rfl trivial ?_
      refine o1 rfl (det_call hb12 rfl rfl (fun w1 hs => check_at hs.know hQ (by have := hQ.len; have := hO.len; have := hO.l; omega) (show _ = (0 : Int) by rw [if_pos hO.r]))) rfl rfl trivial ?_
      refine o1 rfl (det_eql rfl rfl) rfl rfl trivial ?_
      refine o2P beq_iff_eq rfl (det_move rfl) rfl rfl trivial (fun hb => ?_) (fun hb => ?_)
      rotate_left
      · exfalso; exact hb rfl
      refine o1 rfl (det_fieldAddr fld24_1 rfl) rfl rfl ⟨_, rfl, rfl⟩ ?_
      refine o1 rfl (det_load1 t1_22 rfl rfl (.head _) rfl) rfl rfl ⟨_, rfl, rfl⟩ ?_
      refine o1 rfl (det_lenS sl22 rfl) rfl rfl ⟨_, rfl, rfl⟩ ?_
      refine o1 rfl (det_move rfl) rfl rfl ⟨_, rfl, rfl⟩ ?_
      refine o1 rfl (det_lenS sl59 rfl) rfl rfl ⟨_, rfl, rfl⟩ ?_
      refine o1 rfl (det_move rfl) rfl rfl ⟨_, rfl, rfl⟩ ?_
      refine o1 rfl (det_lenS sl59 rfl) rfl rfl ⟨_, rfl, rfl⟩ ?_
      first | (refine o1 rfl (det_subI rfl rfl ?_) rfl rfl ⟨_, rfl, rfl⟩ ?_; (· omega)) | refine o1 rfl (det_sub rfl rfl) rfl rfl ⟨_, rfl, rfl⟩ ?_
      refine o1 rfl (det_eql rfl rfl) rfl rfl ⟨_, rfl, rfl⟩ ?_
      refine o1 rfl (det_pickT rfl rfl) rfl rfl trivial ?_
      refine o1 rfl (det_assign rfl) rfl rfl trivial ?_
      refine be rfl ?_
      refine k_then ?_
      refine t_ret ?_
      refine ret_tmp rfl rfl rfl (fun w1 hs => ?_)
      first | exact ⟨rfl, hs.keep⟩ | exact ⟨by rw [show ((s.n : Int) == (s.ins.length : Int) - (s.k : Int)) = true by simp; omega], hs.keep⟩

end Go.Proofs.Qu
