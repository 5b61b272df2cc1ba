/-
  Walks through layer 38.
-/
import Derived.Test.YtffocfffggfenaaCpP15ToCpP21PportKnownhol
import Derived.Test.YtffocfffggfenaaGtPlainToPoPlain14PportKnownhol
import Derived.Test.YtffocfffggfenaaCpP3ToCpC16PportKnownhol
import Derived.Test.YtffocfffggfenaaEng4ToEng11PportKnownhol
namespace Go.Proofs.Cp
open Go Go.Eng Go.Gt Go.Proofs.Gt Go.Sw Go.Qu Go.Ch Go.Po
set_option maxRecDepth 4000
theorem set_q0 (q0 : Qm) (mr : List Qm) (rest9 : List Value) (v : Value) : setV 1 [v] (rowsV qmv (q0 :: mr) ++ rest9) some = some ([.int .i64 q0.cap, v] ++ rowsV qmv mr ++ rest9) := by
  show setV 1 [v] (.int .i64 q0.cap :: .slice q0.A q0.n q0.c :: (rowsV qmv mr ++ rest9)) some = _
  simp [setV]
theorem bent_k {F : Know} {p : Ps} {B : Option Addr} {d : Nat} {q0 : Qm} {mr : List Qm} (hK : PsK F p B 8 d (q0 :: mr)) {q8 q9 cap9 : Nat} {rest9 : List Value} (hn : 8 ≤ cap9) (hm : cap9 ≤ maxLen) (hP : PK F (some ⟨q9, 0, none⟩) 1 [restP])
    (hc : ∀ j u, ([.int .i64 q0.cap, .slice (some ⟨q9, 0, none⟩) 1 1] ++ rowsV qmv mr ++ rest9)[j]? = some u → F ⟨q8, j, none⟩ = some u) : PsK F (bent p 5) (some ⟨q8, 0, none⟩) 8 cap9 (⟨q0.cap, some ⟨q9, 0, none⟩, 1, 1, [restP]⟩ :: mr) := by
  refine ⟨hK.line, ⟨rowsK_of qmv_len (by decide) (fun j u hj => ⟨_, rfl, by
    rw [add_mk, Nat.zero_add]
    exact hc j u ((List.getElem?_append_left (l₂ := rest9) (List.getElem?_eq_some_iff.1 hj).1).trans hj)⟩) hK.qk.rows.len, fun q hq => ?_⟩, ?_, hn, hm, hK.ln⟩
  · rcases List.mem_cons.1 hq with rfl | h
    · exact ⟨hP, Nat.le_refl _, by show 1 ≤ maxLen; decide, by show 1 ≤ 65536; decide⟩
    · exact hK.qk.each q (.tail _ h)
  · show _ :: mr.map Qm.lg = p.qs.set 0 ((atQ p.qs 0).1, [restP])
    rw [← hK.lg]
    rfl
set_option maxHeartbeats 1000000
theorem pknown_ok {w : World} {F : Know} (hF : ∀ a v, F a = some v → w.cell? a = some v)  : Pure Try.prog 14 [] w (.bool true) := by
  refine fn_pure (F := F) Try.func14 rfl Try.ntmps14 rfl hF ?_
  refine t_seq ?_
  refine b0 ?_
  refine o1 rfl (det_assign rfl) rfl rfl trivial ?_
  refine be rfl ?_
  refine k_then ?_
  refine t_seq ?_
  refine t_seq ?_
  refine b0 ?_
  refine o1 rfl (det_call hb33 rfl rfl (fun w1 hs => pwakes_ok hs.know)) rfl rfl trivial ?_
  refine o1 rfl (det_not rfl) rfl rfl trivial ?_
  refine be rfl ?_
  refine k_then ?_
  refine t_condF rfl ?_
  refine t_skip ?_
  refine k_then ?_
  refine t_seq ?_
  refine b0 ?_
  refine oF nofun rfl hb39 rfl rfl rfl trivial (fun w1 hs => (popen_ok hs.know (per := 1)).any) (fun v1 F1 hF1 hNF1 ⟨A1, n1, k1, hv1, hl1, hnk1⟩ => ?_)
  subst hv1
  refine oF nofun rfl hb40 rfl rfl rfl trivial (fun w1 hs => (caps_ok hs.know (x := 1000) (by omega)).any) (fun v2 F2 hF2 hNF2 ⟨q2, hv2, hI2⟩ => ?_)
  subst hv2
  replace hl1 : LnK F2 (opL A1 n1 k1 1) := EntK.mono hl1 hF2
  refine oF nofun rfl hb34 rfl rfl rfl trivial (fun w1 hs => pnew_at (y := 0) (p2 := pW0 (opL A1 n1 k1 1)) hs.know hl1 hnk1 hI2 (by decide) (by kernel_rfl)) (fun va F3 hF3 hNF3 ⟨Ba, ma, da, msa, hva, hKa⟩ => ?_)
  subst hva
  refine o1 rfl (det_move rfl) rfl rfl trivial ?_
  refine o1 rfl (det_extract rfl rfl) rfl rfl trivial ?_
  refine o1 rfl (det_extract rfl rfl) rfl rfl trivial ?_
  refine om1 rfl (new_alloc z68) rfl rfl trivial (fun p1 => ?_)
  refine stN nofun rfl tN68 rfl rfl rfl .head rfl trivial rfl rfl ?_
  refine o1 rfl (det_assign rfl) rfl rfl trivial ?_
  refine be rfl ?_
  refine k_then ?_
  refine t_seq ?_
  refine t_seq ?_
  refine b0 ?_
  refine o1 rfl (det_move rfl) rfl rfl trivial ?_
  refine o1 rfl (det_neq rfl rfl) rfl rfl trivial ?_
  refine be rfl ?_
  refine k_then ?_
  refine t_condP bne_iff_ne rfl (fun hb => ?_) (fun hb => ?_)
  · exfalso; first | exact hb rfl | (simp at hb; done) | (revert hb; decide)
  refine t_skip ?_
  refine k_then ?_
  refine t_seq ?_
  refine b0 ?_
  refine o1 rfl (det_call hb48 rfl rfl (fun w1 hs => frameI_ok hs.know)) rfl rfl trivial ?_
  refine o1 rfl (det_call hb48 rfl rfl (fun w1 hs => frameI_ok hs.know)) rfl rfl trivial ?_
  refine om1 rfl (new_alloc z55) rfl rfl trivial (fun p3 => ?_)
  refine om1 rfl (new_alloc z55) rfl rfl trivial (fun p4 => ?_)
  refine stN nofun rfl tN55 rfl rfl rfl (.tail .head) rfl trivial rfl rfl ?_
  refine stN nofun rfl tN55 rfl rfl rfl .head rfl trivial rfl rfl ?_
  refine be rfl ?_
  refine k_then ?_
  refine t_seq ?_
  refine b0 ?_
  refine o1 rfl (det_loadN tN68 rfl rfl (.tail _ (.tail _ (.head _))) rfl) rfl rfl trivial ?_
  refine o1 rfl (det_loadN tN55 rfl rfl (.tail _ (.head _)) rfl) rfl rfl trivial ?_
  refine oF nofun rfl hb45 rfl rfl rfl trivial (fun w1 hs => arrive_at (p2 := zeroP) (b := false) (y := 2) (x := fA) (t := -1) hs.know hKa (by kernel_rfl)) (fun vz7 F4 hF4 hNF4 ⟨Bz7, mz7, dz7, msz7, hvz7, hKz7⟩ => ?_)
  subst hvz7
  replace hKa := hKa.mono hF4
  refine o1 rfl (det_move rfl) rfl rfl trivial ?_
  refine o1 rfl (det_extract rfl rfl) rfl rfl trivial ?_
  refine o1 rfl (det_extract rfl rfl) rfl rfl trivial ?_
  refine o1 rfl (det_extract rfl rfl) rfl rfl trivial ?_
  refine om1 rfl (new_alloc z68) rfl rfl trivial (fun p5 => ?_)
  refine stN nofun rfl tN68 rfl rfl rfl .head rfl trivial rfl rfl ?_
  refine o1 rfl (det_assign rfl) rfl rfl trivial ?_
  refine o1 rfl (det_assign rfl) rfl rfl trivial ?_
  refine be rfl ?_
  refine k_then ?_
  refine t_seq ?_
  refine bD mixed ?_
  refine r_force 5 8 (by kernel_rfl) ?_
  refine r_force 6 8 (by kernel_rfl) ?_
  refine r_segF 11 8 [7] [(2, Go.Eng.Told F4 (fun v F2 => ∃ B2 m2 d2 ms2, v = .tuple [.agg (psv zeroP B2 m2 d2).toArray, .bool false, .int .i64 460].toArray ∧ PsK F2 zeroP B2 m2 d2 ms2))] [0, 1, 2, 3, 4, 5, 6, 7] (by kernel_rfl) ?_
  refine s1 rfl (det_loadN tN68 rfl rfl (.tail _ (.tail _ (.tail _ (.head _)))) rfl) rfl rfl trivial rfl ?_
  refine s1 rfl (det_call hb48 rfl rfl (fun w1 hs => frameI_ok hs.know)) rfl rfl trivial rfl ?_
  refine sM [] need0 rfl (fun F2 hF2 hN => mem_call hF2 hb45 rfl rfl (fun w1 hs => arrive_at (p2 := zeroP) (b := false) (y := 460) (x := frameI 2 83) (t := 0) (fun a v h => hs.know a v (hF2 a v h)) hKa (by kernel_rfl))) rfl rfl trivial rfl (fun v61 hv61 => ?_)
  obtain ⟨_, B_61, m_61, d_61, ms_61, rfl, -⟩ := hv61
  refine s1 rfl (det_move rfl) rfl rfl trivial rfl ?_
  refine s1 rfl (det_extract rfl rfl) rfl rfl trivial rfl ?_
  refine s1 rfl (det_extract rfl rfl) rfl rfl trivial rfl ?_
  refine s1 rfl (det_extract rfl rfl) rfl rfl trivial rfl ?_
  refine sm1 rfl (new_alloc z68) rfl rfl trivial rfl (fun p8 => ?_)
  refine sg_nil ?_
  rintro F_8_8 hF_8_8 hN_8_8 ⟨hR61, -⟩
  obtain ⟨B61, m61, d61, ms61, h_61, hK61⟩ := hR61
  obtain ⟨rfl, rfl, rfl⟩ := tup_inj h_61
  replace hKa := hKa.mono hF_8_8
  refine stN (fun _ => by kernel_rfl) rfl tN68 rfl rfl rfl .head rfl trivial rfl rfl ?_
  refine r_seg 11 11 [] [9, 10] (by kernel_rfl) ?_
  refine s1 rfl (det_assign rfl) rfl rfl trivial rfl ?_
  refine s1 rfl (det_assign rfl) rfl rfl trivial rfl ?_
  refine sg_nil ?_
  refine be rfl ?_
  refine np ?_
  refine np ?_
  refine k_then ?_
  refine t_seq ?_
  refine b0 ?_
  refine oF nofun rfl hb39 rfl rfl rfl trivial (fun w1 hs => (popen_ok hs.know (per := 1)).any) (fun v5 F5 hF5 hNF5 ⟨A5, n5, k5, hv5, hl5, hnk5⟩ => ?_)
  subst hv5
  refine om1 rfl (new_buildSlice rfl (fun w => bsl65_7_0_1_2_3_4_5_6 _ _ _ _ _ _ _ w)) rfl rfl trivial (fun p67 => ?_)
  refine tk_freeze (pre := []) rfl (fun Fa hFa hNa hKFa => ?_)
  replace hKa := (hKa.mono hF5).mono hFa
  have hl5b : LnK Fa (opL A5 n5 k5 1) := EntK.mono hl5 hFa
  have hI7 : IntsK Fa .i64 (some ⟨p67, 0, none⟩) 7 [1, 1, 1, 1, 1, 1, 1] := intsK_lit (xs := [1, 1, 1, 1, 1, 1, 1]) (by decide) (fun k u hk => hKFa k u hk)
  refine oF nofun rfl hb34 rfl rfl rfl trivial (fun w1 hs => pnew_at (y := 2) (p2 := zeroP) hs.know hl5b hnk5 hI7 (by decide) (by kernel_rfl)) (fun vz9 F6 hF6 hNF6 ⟨Bz9, mz9, dz9, msz9, hvz9, hKz9⟩ => ?_)
  subst hvz9
  replace hKa := hKa.mono hF6
  refine o1 rfl (det_move rfl) rfl rfl trivial ?_
  refine o1 rfl (det_extract rfl rfl) rfl rfl trivial ?_
  refine o1 rfl (det_extract rfl rfl) rfl rfl trivial ?_
  refine om1 rfl (new_alloc z68) rfl rfl trivial (fun p11 => ?_)
  refine stN nofun rfl tN68 rfl rfl rfl .head rfl trivial rfl rfl ?_
  refine o1 rfl (det_assign rfl) rfl rfl trivial ?_
  refine be rfl ?_
  refine k_then ?_
  refine t_seq ?_
  refine b0 ?_
  refine oF nofun rfl hb39 rfl rfl rfl trivial (fun w1 hs => (popen_ok hs.know (per := 1)).any) (fun v7 F7 hF7 hNF7 ⟨A7, n7, k7, hv7, hl7, hnk7⟩ => ?_)
  subst hv7
  refine oF nofun rfl hb40 rfl rfl rfl trivial (fun w1 hs => (caps_ok hs.know (x := 65537) (by omega)).any) (fun v8 F8 hF8 hNF8 ⟨q8, hv8, hI8⟩ => ?_)
  subst hv8
  replace hl7 : LnK F8 (opL A7 n7 k7 1) := EntK.mono hl7 hF8
  refine oF nofun rfl hb34 rfl rfl rfl trivial (fun w1 hs => pnew_at (y := 2) (p2 := zeroP) hs.know hl7 hnk7 hI8 (by decide) (by kernel_rfl)) (fun vz10 F9 hF9 hNF9 ⟨Bz10, mz10, dz10, msz10, hvz10, hKz10⟩ => ?_)
  subst hvz10
  
  replace hKa := ((hKa.mono hF7).mono hF8).mono hF9
  refine o1 rfl (det_move rfl) rfl rfl trivial ?_
  refine o1 rfl (det_extract rfl rfl) rfl rfl trivial ?_
  refine o1 rfl (det_extract rfl rfl) rfl rfl trivial ?_
  refine om1 rfl (new_alloc z68) rfl rfl trivial (fun p13 => ?_)
  refine stN nofun rfl tN68 rfl rfl rfl .head rfl trivial rfl rfl ?_
  refine o1 rfl (det_assign rfl) rfl rfl trivial ?_
  refine be rfl ?_
  refine k_then ?_
  refine t_seq ?_
  refine b0 ?_
  refine oF nofun rfl hb39 rfl rfl rfl trivial (fun w1 hs => (popen_ok hs.know (per := 0)).any) (fun v10 F10 hF10 hNF10 ⟨A10, n10, k10, hv10, hl10, hnk10⟩ => ?_)
  subst hv10
  refine oF nofun rfl hb34 rfl rfl rfl trivial (fun w1 hs => pnew_at (y := 471) (p2 := zeroP) (xs := []) hs.know hl10 hnk10 ⟨rfl, fun i x h => by simp at h, fun i h => by simp at h⟩ (by decide) (by kernel_rfl)) (fun vz11 F11 hF11 hNF11 ⟨Bz11, mz11, dz11, msz11, hvz11, hKz11⟩ => ?_)
  subst hvz11
  
  replace hKa := (hKa.mono hF10).mono hF11
  refine o1 rfl (det_move rfl) rfl rfl trivial ?_
  refine o1 rfl (det_extract rfl rfl) rfl rfl trivial ?_
  refine o1 rfl (det_extract rfl rfl) rfl rfl trivial ?_
  refine om1 rfl (new_alloc z68) rfl rfl trivial (fun p15 => ?_)
  refine stN nofun rfl tN68 rfl rfl rfl .head rfl trivial rfl rfl ?_
  refine o1 rfl (det_assign rfl) rfl rfl trivial ?_
  refine be rfl ?_
  refine k_then ?_
  refine t_seq ?_
  refine b0 ?_
  refine o1 rfl (det_loadN tN68 rfl rfl (.tail _ (.tail _ (.tail _ (.tail _ (.tail _ (.tail _ (.tail _ (.head _)))))))) rfl) rfl rfl trivial ?_
  refine o1 rfl (det_call hb43 rfl rfl (fun w1 hs => next_at (x := 0) (y := 4) hs.know hKa (by kernel_rfl))) rfl rfl trivial ?_
  refine o1 rfl (det_move rfl) rfl rfl trivial ?_
  refine o1 rfl (det_extract rfl rfl) rfl rfl trivial ?_
  refine o1 rfl (det_extract rfl rfl) rfl rfl trivial ?_
  refine o1 rfl (det_assign rfl) rfl rfl trivial ?_
  refine o1 rfl (det_assign rfl) rfl rfl trivial ?_
  refine be rfl ?_
  refine k_then ?_
  refine t_seq ?_
  refine b0 ?_
  refine o1 rfl (det_loadN tN68 rfl rfl (.tail _ (.tail _ (.tail _ (.tail _ (.tail _ (.tail _ (.tail _ (.head _)))))))) rfl) rfl rfl trivial ?_
  refine o1 rfl (det_loadN tN55 rfl rfl (.tail _ (.tail _ (.tail _ (.tail _ (.tail _ (.tail _ (.head _))))))) rfl) rfl rfl trivial ?_
  refine oF nofun rfl hb45 rfl rfl rfl trivial (fun w1 hs => arrive_at (p2 := pW1 (opL A1 n1 k1 1)) (b := true) (y := 0) (x := fA) (t := 0) hs.know hKa (by kernel_rfl)) (fun vb F12 hF12 hNF12 ⟨Bb, mb, db, msb, hvb, hKb⟩ => ?_)
  subst hvb
  refine o1 rfl (det_move rfl) rfl rfl trivial ?_
  refine o1 rfl (det_extract rfl rfl) rfl rfl trivial ?_
  refine o1 rfl (det_extract rfl rfl) rfl rfl trivial ?_
  refine o1 rfl (det_extract rfl rfl) rfl rfl trivial ?_
  refine stN nofun rfl tN68 rfl rfl rfl (.tail (.tail (.tail (.tail (.tail (.tail (.tail .head))))))) rfl trivial rfl rfl ?_
  refine o1 rfl (det_assign rfl) rfl rfl trivial ?_
  refine o1 rfl (det_assign rfl) rfl rfl trivial ?_
  refine be rfl ?_
  refine k_then ?_
  refine t_seq ?_
  refine b0 ?_
  refine o1 rfl (det_loadN tN68 rfl rfl (.tail _ (.tail _ (.tail _ (.tail _ (.tail _ (.tail _ (.tail _ (.head _)))))))) rfl) rfl rfl trivial ?_
  refine oF nofun rfl hb46 rfl rfl rfl trivial (fun w1 hs => choose_at (p2 := pW2 (opL A1 n1 k1 1)) (y := 0) (t := 0) hs.know hKb (by kernel_rfl)) (fun vc F13 hF13 hNF13 ⟨Bc, mc, dc, msc, hvc, hKc⟩ => ?_)
  subst hvc
  refine o1 rfl (det_move rfl) rfl rfl trivial ?_
  refine o1 rfl (det_extract rfl rfl) rfl rfl trivial ?_
  refine o1 rfl (det_extract rfl rfl) rfl rfl trivial ?_
  refine stN nofun rfl tN68 rfl rfl rfl (.tail (.tail (.tail (.tail (.tail (.tail (.tail .head))))))) rfl trivial rfl rfl ?_
  refine o1 rfl (det_assign rfl) rfl rfl trivial ?_
  refine be rfl ?_
  refine k_then ?_
  refine t_seq ?_
  refine b0 ?_
  refine o1 rfl (det_loadN tN68 rfl rfl (.tail _ (.tail _ (.tail _ (.tail _ (.tail _ (.tail _ (.tail _ (.head _)))))))) rfl) rfl rfl trivial ?_
  refine oF nofun rfl hb46 rfl rfl rfl trivial (fun w1 hs => choose_at (p2 := zeroP) (y := 2) (t := 201) hs.know hKc (by kernel_rfl)) (fun vz15 F14 hF14 hNF14 ⟨Bz15, mz15, dz15, msz15, hvz15, hKz15⟩ => ?_)
  subst hvz15
  replace hKc := hKc.mono hF14
  refine o1 rfl (det_move rfl) rfl rfl trivial ?_
  refine o1 rfl (det_extract rfl rfl) rfl rfl trivial ?_
  refine o1 rfl (det_extract rfl rfl) rfl rfl trivial ?_
  refine om1 rfl (new_alloc z68) rfl rfl trivial (fun p22 => ?_)
  refine stN nofun rfl tN68 rfl rfl rfl .head rfl trivial rfl rfl ?_
  refine o1 rfl (det_assign rfl) rfl rfl trivial ?_
  refine be rfl ?_
  refine k_then ?_
  refine t_seq ?_
  refine b0 ?_
  refine o1 rfl (det_loadN tN68 rfl rfl (.tail _ (.tail _ (.tail _ (.tail _ (.tail _ (.tail _ (.tail _ (.tail _ (.head _))))))))) rfl) rfl rfl trivial ?_
  refine o1 rfl (det_loadN tN55 rfl rfl (.tail _ (.tail _ (.tail _ (.tail _ (.tail _ (.tail _ (.head _))))))) rfl) rfl rfl trivial ?_
  refine oF nofun rfl hb45 rfl rfl rfl trivial (fun w1 hs => arrive_at (p2 := pK3 (opL A1 n1 k1 1)) (b := true) (y := 0) (x := fB) (t := 50) hs.know hKc (by kernel_rfl)) (fun vd F15 hF15 hNF15 ⟨Bd, md, dd, msd, hvd, hKd⟩ => ?_)
  subst hvd
  refine o1 rfl (det_move rfl) rfl rfl trivial ?_
  refine o1 rfl (det_extract rfl rfl) rfl rfl trivial ?_
  refine o1 rfl (det_extract rfl rfl) rfl rfl trivial ?_
  refine o1 rfl (det_extract rfl rfl) rfl rfl trivial ?_
  refine stN nofun rfl tN68 rfl rfl rfl (.tail (.tail (.tail (.tail (.tail (.tail (.tail (.tail .head)))))))) rfl trivial rfl rfl ?_
  refine o1 rfl (det_assign rfl) rfl rfl trivial ?_
  refine o1 rfl (det_assign rfl) rfl rfl trivial ?_
  refine be rfl ?_
  refine k_then ?_
  refine t_seq ?_
  refine b0 ?_
  obtain ⟨pz, hp4⟩ : ∃ p, p = pK4 (opL A1 n1 k1 1) := ⟨_, rfl⟩
  refine o1 rfl (det_loadN tN68 rfl rfl (.tail _ (.tail _ (.tail _ (.tail _ (.tail _ (.tail _ (.tail _ (.tail _ (.head _))))))))) rfl) rfl rfl trivial ?_
  refine oF nofun rfl hb46 rfl rfl rfl trivial (fun w1 hs => choose_at (p2 := pz) (y := 0) (t := 50) hs.know hKd (by rw [hp4]; kernel_rfl)) (fun ve F16 hF16 hNF16 ⟨Be, me, de, mse, hve, hKe⟩ => ?_)
  subst hve
  
  have hme := hKe.len
  obtain rfl : me = 8 := by have h2 : pz.qs.length = 8 := (by rw [hp4]; kernel_rfl); omega
  obtain ⟨q0, mr, rfl⟩ : ∃ q0 mr, mse = q0 :: mr := by
    cases h : mse with
    | nil => rw [h] at hme; simp at hme
    | cons q0 mr => exact ⟨q0, mr, rfl⟩
  refine o1 rfl (det_move rfl) rfl rfl trivial ?_
  refine o1 rfl (det_extract rfl rfl) rfl rfl trivial ?_
  refine o1 rfl (det_extract rfl rfl) rfl rfl trivial ?_
  refine stN nofun rfl tN68 rfl rfl rfl (.tail (.tail (.tail (.tail (.tail (.tail (.tail (.tail .head)))))))) rfl trivial rfl rfl ?_
  refine o1 rfl (det_assign rfl) rfl rfl trivial ?_
  refine be rfl ?_
  refine k_then ?_
  refine t_seq ?_
  refine t_seq ?_
  refine b0 ?_
  refine o1 rfl (det_move rfl) rfl rfl trivial ?_
  refine o1 rfl (det_neq rfl rfl) rfl rfl trivial ?_
  refine o2P bne_iff_ne rfl (det_move rfl) rfl rfl trivial (fun hb => ?_) (fun hb => ?_)
  · exfalso; first | exact hb rfl | (simp at hb; done) | (revert hb; decide)
  refine o1 rfl (det_move rfl) rfl rfl ⟨_, rfl, rfl⟩ ?_
  refine o1 rfl (det_neq rfl rfl) rfl rfl ⟨_, rfl, rfl⟩ ?_
  refine o1 rfl (det_pickF rfl rfl) rfl rfl trivial ?_
  refine o2P bne_iff_ne rfl (det_move rfl) rfl rfl trivial (fun hb => ?_) (fun hb => ?_)
  · exfalso; first | exact hb rfl | (simp at hb; done) | (revert hb; decide)
  refine o1 rfl (det_move rfl) rfl rfl ⟨_, rfl, rfl⟩ ?_
  refine o1 rfl (det_neq rfl rfl) rfl rfl ⟨_, rfl, rfl⟩ ?_
  refine o1 rfl (det_pickF rfl rfl) rfl rfl trivial ?_
  refine o2P bne_iff_ne rfl (det_move rfl) rfl rfl trivial (fun hb => ?_) (fun hb => ?_)
  · exfalso; first | exact hb rfl | (simp at hb; done) | (revert hb; decide)
  refine o1 rfl (det_move rfl) rfl rfl ⟨_, rfl, rfl⟩ ?_
  refine o1 rfl (det_neq rfl rfl) rfl rfl ⟨_, rfl, rfl⟩ ?_
  refine o1 rfl (det_pickF rfl rfl) rfl rfl trivial ?_
  refine o2P bne_iff_ne rfl (det_move rfl) rfl rfl trivial (fun hb => ?_) (fun hb => ?_)
  · exfalso; first | exact hb rfl | (simp at hb; done) | (revert hb; decide)
  refine o1 rfl (det_move rfl) rfl rfl ⟨_, rfl, rfl⟩ ?_
  refine o1 rfl (det_not rfl) rfl rfl ⟨_, rfl, rfl⟩ ?_
  refine o1 rfl (det_pickF rfl rfl) rfl rfl trivial ?_
  refine o2P not_iff_false rfl (det_move rfl) rfl rfl trivial (fun hb => ?_) (fun hb => ?_)
  · exfalso; first | exact hb rfl | (simp at hb; done) | (revert hb; decide)
  refine o1 rfl (det_fieldAddr fld68_6 rfl) rfl rfl ⟨_, rfl, rfl⟩ ?_
  refine o1 rfl (det_load1 t1_3 rfl rfl (.tail _ (.tail _ (.tail _ (.tail _ (.tail _ (.tail _ (.tail _ (.tail _ (.head _))))))))) rfl) rfl rfl ⟨_, rfl, rfl⟩ ?_
  refine o1 rfl (det_neq rfl rfl) rfl rfl ⟨_, rfl, rfl⟩ ?_
  refine o1 rfl (det_pickF rfl rfl) rfl rfl trivial ?_
  refine o2P bne_iff_ne rfl (det_move rfl) rfl rfl trivial (fun hb => ?_) (fun hb => ?_)
  · exfalso; rw [hp4] at hb; refine hb ?_; kernel_rfl
  refine o1 rfl (det_fieldAddr fld68_7 rfl) rfl rfl ⟨_, rfl, rfl⟩ ?_
  refine o1 rfl (det_load1 t1_3 rfl rfl (.tail _ (.tail _ (.tail _ (.tail _ (.tail _ (.tail _ (.tail _ (.tail _ (.head _))))))))) rfl) rfl rfl ⟨_, rfl, rfl⟩ ?_
  refine o1 rfl (det_neq rfl rfl) rfl rfl ⟨_, rfl, rfl⟩ ?_
  refine o1 rfl (det_pickF rfl rfl) rfl rfl trivial ?_
  refine o2P bne_iff_ne rfl (det_move rfl) rfl rfl trivial (fun hb => ?_) (fun hb => ?_)
  · exfalso; rw [hp4] at hb; refine hb ?_; kernel_rfl
  refine o1 rfl (det_fieldAddr fld68_4 rfl) rfl rfl ⟨_, rfl, rfl⟩ ?_
  refine o1 rfl (det_fieldAddr fld57_1 rfl) rfl rfl ⟨_, rfl, rfl⟩ ?_
  refine o1 rfl (det_load1 t1_3 rfl rfl (.tail _ (.tail _ (.tail _ (.tail _ (.tail _ (.tail _ (.tail _ (.tail _ (.head _))))))))) rfl) rfl rfl ⟨_, rfl, rfl⟩ ?_
  refine o1 rfl (det_neq rfl rfl) rfl rfl ⟨_, rfl, rfl⟩ ?_
  refine o1 rfl (det_pickF rfl rfl) rfl rfl trivial ?_
  refine be rfl ?_
  refine k_then ?_
  refine t_condP bne_iff_ne rfl (fun hb => ?_) (fun hb => ?_)
  · exfalso; rw [hp4] at hb; refine hb ?_; kernel_rfl
  refine t_skip ?_
  refine k_then ?_
  refine t_seq ?_
  refine b0 ?_
  refine o1 rfl (det_loadN tN68 rfl rfl (.tail _ (.tail _ (.tail _ (.tail _ (.tail _ (.tail _ (.tail _ (.tail _ (.head _))))))))) rfl) rfl rfl trivial ?_
  refine o1 rfl (det_loadN tN68 rfl rfl (.tail _ (.tail _ (.tail _ (.tail _ (.tail _ (.tail _ (.tail _ (.tail _ (.head _))))))))) rfl) rfl rfl trivial ?_
  refine o1 rfl (det_loadN tN68 rfl rfl (.tail _ (.tail _ (.tail _ (.tail _ (.tail _ (.tail _ (.tail _ (.tail _ (.head _))))))))) rfl) rfl rfl trivial ?_
  refine o1 rfl (det_loadN tN68 rfl rfl (.tail _ (.tail _ (.tail _ (.tail _ (.tail _ (.tail _ (.tail _ (.tail _ (.head _))))))))) rfl) rfl rfl trivial ?_
  refine o1 rfl (det_loadN tN68 rfl rfl (.tail _ (.tail _ (.tail _ (.tail _ (.tail _ (.tail _ (.tail _ (.tail _ (.head _))))))))) rfl) rfl rfl trivial ?_
  refine o1 rfl (det_loadN tN68 rfl rfl (.tail _ (.tail _ (.tail _ (.tail _ (.tail _ (.tail _ (.tail _ (.tail _ (.head _))))))))) rfl) rfl rfl trivial ?_
  refine o1 rfl (det_build rfl (fun w => bld102_0_1_2_3_4_5 _ _ _ _ _ _ _ _ _ _ _ _ _ _ _ _ _ _ _ _ _ _ _ _ _ _ _ _ _ _ _ _ _ _ _ _ _ _ _ _ _ _ _ _ _ _ _ _ _ _ _ _ _ _ _ _ _ _ _ _ _ _ _ _ _ _ _ _ _ _ _ _ _ _ _ _ _ _ _ _ _ _ _ _ _ _ _ _ _ _ _ _ _ _ _ _ _ _ _ _ _ _ _ _ _ _ _ _ _ _ _ _ _ _ _ _ _ _ _ _ _ _ _ _ _ _ w)) rfl rfl trivial ?_
  refine om1 rfl (new_alloc z102) rfl rfl trivial (fun p27 => ?_)
  refine stN nofun rfl tN102 rfl rfl rfl .head rfl trivial rfl rfl ?_
  refine be rfl ?_
  refine k_then ?_
  refine t_seq ?_
  refine b0 ?_
  first | (refine o1 rfl (det_indexAddrA ar102 rfl rfl ?_) rfl rfl trivial ?_; (· (first | decide | omega)))
  refine o1 rfl (det_fieldAddr fld68_6 rfl) rfl rfl trivial ?_
  refine st1 nofun rfl t1_3 rfl rfl rfl .head rfl trivial rfl ?_
  first | (refine o1 rfl (det_indexAddrA ar102 rfl rfl ?_) rfl rfl trivial ?_; (· (first | decide | omega)))
  refine o1 rfl (det_fieldAddr fld68_7 rfl) rfl rfl trivial ?_
  refine st1 nofun rfl t1_3 rfl rfl rfl .head rfl trivial rfl ?_
  first | (refine o1 rfl (det_indexAddrA ar102 rfl rfl ?_) rfl rfl trivial ?_; (· (first | decide | omega)))
  refine o1 rfl (det_fieldAddr fld68_5 rfl) rfl rfl trivial ?_
  refine st1 nofun rfl t1_3 rfl rfl rfl .head rfl trivial rfl ?_
  first | (refine o1 rfl (det_indexAddrA ar102 rfl rfl ?_) rfl rfl trivial ?_; (· (first | decide | omega)))
  refine o1 rfl (det_fieldAddr fld68_1 rfl) rfl rfl trivial ?_
  refine st1 nofun rfl t1_3 rfl rfl rfl .head rfl trivial rfl ?_
  first | (refine o1 rfl (det_indexAddrA ar102 rfl rfl ?_) rfl rfl trivial ?_; (· (first | decide | omega)))
  refine o1 rfl (det_fieldAddr fld68_4 rfl) rfl rfl trivial ?_
  refine o1 rfl (det_fieldAddr fld57_1 rfl) rfl rfl trivial ?_
  refine st1 nofun rfl t1_3 rfl rfl rfl .head rfl trivial rfl ?_
  refine be rfl ?_
  refine k_then ?_
  refine t_seq ?_
  refine b0 ?_
  refine om1 rfl (new_buildSlice rfl (fun w => bsl66_0_ w)) rfl rfl trivial (fun p168 => ?_)
  refine o1 rfl (det_fieldAddr fld68_2 rfl) rfl rfl trivial ?_
  refine o1 rfl (det_load1 t1_66 rfl rfl (.tail _ (.tail _ (.tail _ (.tail _ (.tail _ (.tail _ (.tail _ (.tail _ (.tail _ (.tail _ (.head _))))))))))) rfl) rfl rfl trivial ?_
  refine om rfl (new_app0 (m := 8) (news := (rowsV qmv (q0 :: mr))) ap66 rfl rfl (by rw [rowsV_len qmv_len, ← hme.1]) (by decide) (hKe.qk.rows.flat qmv_len (by decide)) (by decide) (by decide)) rfl rfl trivial (fun p171 v171 ob171 hS171 => ?_)
  obtain ⟨-, (⟨-, h0, -⟩ | ⟨p9, cap9, rest9, rfl, hb9, hn9, hm9, hl9⟩)⟩ := hS171
  · exact absurd h0 (by decide)
  cases hb9
  first | (refine o1 rfl (det_indexAddrA ar102 rfl rfl ?_) rfl rfl trivial ?_; (· (first | decide | omega)))
  refine o1 rfl (det_fieldAddr fld68_2 rfl) rfl rfl trivial ?_
  refine st1 nofun rfl t1_66 rfl rfl rfl (.tail (.tail .head)) rfl trivial rfl ?_
  refine be rfl ?_
  refine k_then ?_
  refine t_seq ?_
  refine bD mixed ?_
  refine r_seg 9 8 [5] [0, 1, 2, 3, 4, 5, 6, 7] (by kernel_rfl) ?_
  first | (refine s1 rfl (det_indexAddrA ar102 rfl rfl ?_) rfl rfl trivial rfl ?_; (· (first | decide | omega)))
  refine s1 rfl (det_fieldAddr fld68_2 rfl) rfl rfl trivial rfl ?_
  refine s1 rfl (det_load1 t1_66 rfl rfl (.tail _ (.tail _ (.head _))) rfl) rfl rfl trivial rfl ?_
  refine s1 rfl (det_call hb48 rfl rfl (fun w1 hs => frameI_ok hs.know)) rfl rfl trivial rfl ?_
  refine s1 rfl (det_build rfl (fun w => bld57_0_1_2 _ _ _ _ _ _ _ w)) rfl rfl trivial rfl ?_
  refine sm1 rfl (new_buildSlice rfl (fun w => bsl27_1_0 _ _ _ _ _ _ _ w)) rfl rfl trivial rfl (fun p179 => ?_)
  first | (refine s1 rfl (det_indexAddr sl66 rfl rfl ?_) rfl rfl trivial rfl ?_; (· (first | decide | omega)))
  refine s1 rfl (det_fieldAddr fld73_1 rfl) rfl rfl trivial rfl ?_
  refine sg_nil ?_
  refine st1 (fun _ => by kernel_rfl) rfl t1_27 rfl rfl rfl (.tail .head) (set_q0 q0 mr rest9 _) trivial rfl ?_
  refine be rfl ?_
  refine k_then ?_
  refine t_seq ?_
  refine t_seq ?_
  refine b0 ?_
  refine tk_freeze (pre := []) rfl (fun Fc hFc hNFc hKFc => ?_)
  refine tk_freeze (pre := []) rfl (fun Fd hFd hNFd hKFd => ?_)
  replace hKe := (hKe.mono hFc).mono hFd
  have hPr : PK Fd (some ⟨p179, 0, none⟩) 1 [restP] := RowsK.mono (lit_rows (ps := [restP]) hKFc rfl) hFd
  have hbent := bent_k (q8 := p171) (q9 := p179) (rest9 := rest9) hKe hn9 hm9 hPr (fun j u hj => hKFd j u hj)
  refine o1 rfl (det_loadN tN102 rfl rfl (.tail _ (.head _)) rfl) rfl rfl trivial ?_
  refine o1 rfl (det_move rfl) rfl rfl trivial ?_
  refine be rfl ?_
  refine k_then ?_
  refine t_block ?_
  refine t_whileM (σ := Nat) (fun i => [(183, .int .i64 (i : Int))]) (fun _ => _) (fun i => 6 - i) (fun i => i ≤ 6) 0 (env0 := [(1, _), (3, _), (4, _), (7, _), (10, _), (12, _), (14, _), (16, _), (18, _), (23, _), (182, _)]) (Nat.zero_le _) ⟨rfl, trivial⟩ ⟨rfl, rfl, rfl, rfl, rfl, rfl, rfl, rfl, rfl, rfl, rfl, trivial⟩ (.refl _) ?_
  intro i hi6
  refine t_seq ?_
  refine b0 ?_
  refine o1 rfl (det_lss rfl rfl) rfl rfl trivial ?_
  refine be rfl ?_
  refine k_then ?_
  refine t_seq ?_
  refine t_condP decide_eq_true_iff rfl (fun hb => ?_) (fun hb => ?_)
  ·
    refine t_skip ?_
    refine k_then ?_
    refine t_seq ?_
    refine t_block ?_
    refine t_seq ?_
    refine b0 ?_
    obtain h6 | h6 | h6 | h6 | h6 | h6 : i = 0 ∨ i = 1 ∨ i = 2 ∨ i = 3 ∨ i = 4 ∨ i = 5 := by omega
    ·
      subst h6
      first | (refine o1 rfl (det_indexN ar102 tN68 rfl rfl ?_ rfl) rfl rfl trivial ?_; (· (first | decide | omega)))
      refine om1 rfl (new_alloc z68) rfl rfl trivial (fun p29 => ?_)
      refine stN nofun rfl tN68 rfl rfl rfl .head rfl trivial rfl rfl ?_
      refine be rfl ?_
      refine k_then ?_
      refine t_seq ?_
      refine b0 ?_
      refine o1 rfl (det_loadN tN68 rfl rfl (.head _) rfl) rfl rfl trivial ?_
      refine o1 rfl (det_call hb37 rfl rfl (fun w1 hs => pcheck_at (p := bent pz 0) (x := 480) hs.know (psK_of hKe rfl rfl) (by rw [hp4]; kernel_rfl))) rfl rfl trivial ?_
      refine o1 rfl (det_neq rfl rfl) rfl rfl trivial ?_
      refine be rfl ?_
      refine k_then ?_
      refine t_condP bne_iff_ne rfl (fun hb => ?_) (fun hb => ?_)
      · exfalso; simp at hb
      refine t_skip ?_
      refine k_blk ?_
      refine k_then ?_
      refine b0 ?_
      first | (refine o1 rfl (det_addI rfl rfl ?_) rfl rfl trivial ?_; (· omega)) | refine o1 rfl (det_add rfl rfl) rfl rfl trivial ?_
      refine o1 rfl (det_move rfl) rfl rfl trivial ?_
      refine be rfl ?_
      refine k_then ?_
      refine loop_back _ (by first | omega | decide) (by first | omega | decide) ⟨rfl, rfl, rfl, rfl, rfl, rfl, rfl, rfl, rfl, rfl, rfl, rfl, trivial⟩ (.cons _ (.refl _))
    ·
      subst h6
      first | (refine o1 rfl (det_indexN ar102 tN68 rfl rfl ?_ rfl) rfl rfl trivial ?_; (· (first | decide | omega)))
      refine om1 rfl (new_alloc z68) rfl rfl trivial (fun p29 => ?_)
      refine stN nofun rfl tN68 rfl rfl rfl .head rfl trivial rfl rfl ?_
      refine be rfl ?_
      refine k_then ?_
      refine t_seq ?_
      refine b0 ?_
      refine o1 rfl (det_loadN tN68 rfl rfl (.head _) rfl) rfl rfl trivial ?_
      refine o1 rfl (det_call hb37 rfl rfl (fun w1 hs => pcheck_at (p := bent pz 1) (x := 480) hs.know (psK_of hKe rfl rfl) (by rw [hp4]; kernel_rfl))) rfl rfl trivial ?_
      refine o1 rfl (det_neq rfl rfl) rfl rfl trivial ?_
      refine be rfl ?_
      refine k_then ?_
      refine t_condP bne_iff_ne rfl (fun hb => ?_) (fun hb => ?_)
      · exfalso; simp at hb
      refine t_skip ?_
      refine k_blk ?_
      refine k_then ?_
      refine b0 ?_
      first | (refine o1 rfl (det_addI rfl rfl ?_) rfl rfl trivial ?_; (· omega)) | refine o1 rfl (det_add rfl rfl) rfl rfl trivial ?_
      refine o1 rfl (det_move rfl) rfl rfl trivial ?_
      refine be rfl ?_
      refine k_then ?_
      refine loop_back _ (by first | omega | decide) (by first | omega | decide) ⟨rfl, rfl, rfl, rfl, rfl, rfl, rfl, rfl, rfl, rfl, rfl, rfl, trivial⟩ (.cons _ (.refl _))
    ·
      subst h6
      first | (refine o1 rfl (det_indexN ar102 tN68 rfl rfl ?_ rfl) rfl rfl trivial ?_; (· (first | decide | omega)))
      refine om1 rfl (new_alloc z68) rfl rfl trivial (fun p29 => ?_)
      refine stN nofun rfl tN68 rfl rfl rfl .head rfl trivial rfl rfl ?_
      refine be rfl ?_
      refine k_then ?_
      refine t_seq ?_
      refine b0 ?_
      refine o1 rfl (det_loadN tN68 rfl rfl (.head _) rfl) rfl rfl trivial ?_
      refine o1 rfl (det_call hb37 rfl rfl (fun w1 hs => pcheck_at (p := bent pz 2) (x := 480) hs.know (psK_of hKe rfl rfl) (by rw [hp4]; kernel_rfl))) rfl rfl trivial ?_
      refine o1 rfl (det_neq rfl rfl) rfl rfl trivial ?_
      refine be rfl ?_
      refine k_then ?_
      refine t_condP bne_iff_ne rfl (fun hb => ?_) (fun hb => ?_)
      · exfalso; simp at hb
      refine t_skip ?_
      refine k_blk ?_
      refine k_then ?_
      refine b0 ?_
      first | (refine o1 rfl (det_addI rfl rfl ?_) rfl rfl trivial ?_; (· omega)) | refine o1 rfl (det_add rfl rfl) rfl rfl trivial ?_
      refine o1 rfl (det_move rfl) rfl rfl trivial ?_
      refine be rfl ?_
      refine k_then ?_
      refine loop_back _ (by first | omega | decide) (by first | omega | decide) ⟨rfl, rfl, rfl, rfl, rfl, rfl, rfl, rfl, rfl, rfl, rfl, rfl, trivial⟩ (.cons _ (.refl _))
    ·
      subst h6
      first | (refine o1 rfl (det_indexN ar102 tN68 rfl rfl ?_ rfl) rfl rfl trivial ?_; (· (first | decide | omega)))
      refine om1 rfl (new_alloc z68) rfl rfl trivial (fun p29 => ?_)
      refine stN nofun rfl tN68 rfl rfl rfl .head rfl trivial rfl rfl ?_
      refine be rfl ?_
      refine k_then ?_
      refine t_seq ?_
      refine b0 ?_
      refine o1 rfl (det_loadN tN68 rfl rfl (.head _) rfl) rfl rfl trivial ?_
      refine o1 rfl (det_call hb37 rfl rfl (fun w1 hs => pcheck_at (p := bent pz 3) (x := 480) hs.know (psK_of hKe rfl rfl) (by rw [hp4]; kernel_rfl))) rfl rfl trivial ?_
      refine o1 rfl (det_neq rfl rfl) rfl rfl trivial ?_
      refine be rfl ?_
      refine k_then ?_
      refine t_condP bne_iff_ne rfl (fun hb => ?_) (fun hb => ?_)
      · exfalso; simp at hb
      refine t_skip ?_
      refine k_blk ?_
      refine k_then ?_
      refine b0 ?_
      first | (refine o1 rfl (det_addI rfl rfl ?_) rfl rfl trivial ?_; (· omega)) | refine o1 rfl (det_add rfl rfl) rfl rfl trivial ?_
      refine o1 rfl (det_move rfl) rfl rfl trivial ?_
      refine be rfl ?_
      refine k_then ?_
      refine loop_back _ (by first | omega | decide) (by first | omega | decide) ⟨rfl, rfl, rfl, rfl, rfl, rfl, rfl, rfl, rfl, rfl, rfl, rfl, trivial⟩ (.cons _ (.refl _))
    ·
      subst h6
      first | (refine o1 rfl (det_indexN ar102 tN68 rfl rfl ?_ rfl) rfl rfl trivial ?_; (· (first | decide | omega)))
      refine om1 rfl (new_alloc z68) rfl rfl trivial (fun p29 => ?_)
      refine stN nofun rfl tN68 rfl rfl rfl .head rfl trivial rfl rfl ?_
      refine be rfl ?_
      refine k_then ?_
      refine t_seq ?_
      refine b0 ?_
      refine o1 rfl (det_loadN tN68 rfl rfl (.head _) rfl) rfl rfl trivial ?_
      refine o1 rfl (det_call hb37 rfl rfl (fun w1 hs => pcheck_at (p := bent pz 4) (x := 480) hs.know (psK_of hKe rfl rfl) (by rw [hp4]; kernel_rfl))) rfl rfl trivial ?_
      refine o1 rfl (det_neq rfl rfl) rfl rfl trivial ?_
      refine be rfl ?_
      refine k_then ?_
      refine t_condP bne_iff_ne rfl (fun hb => ?_) (fun hb => ?_)
      · exfalso; simp at hb
      refine t_skip ?_
      refine k_blk ?_
      refine k_then ?_
      refine b0 ?_
      first | (refine o1 rfl (det_addI rfl rfl ?_) rfl rfl trivial ?_; (· omega)) | refine o1 rfl (det_add rfl rfl) rfl rfl trivial ?_
      refine o1 rfl (det_move rfl) rfl rfl trivial ?_
      refine be rfl ?_
      refine k_then ?_
      refine loop_back _ (by first | omega | decide) (by first | omega | decide) ⟨rfl, rfl, rfl, rfl, rfl, rfl, rfl, rfl, rfl, rfl, rfl, rfl, trivial⟩ (.cons _ (.refl _))
    ·
      subst h6
      first | (refine o1 rfl (det_indexN ar102 tN68 rfl rfl ?_ rfl) rfl rfl trivial ?_; (· (first | decide | omega)))
      refine om1 rfl (new_alloc z68) rfl rfl trivial (fun p29 => ?_)
      refine stN nofun rfl tN68 rfl rfl rfl .head rfl trivial rfl rfl ?_
      refine be rfl ?_
      refine k_then ?_
      refine t_seq ?_
      refine b0 ?_
      refine o1 rfl (det_loadN tN68 rfl rfl (.head _) rfl) rfl rfl trivial ?_
      refine o1 rfl (det_call hb37 rfl rfl (fun w1 hs => pcheck_at (p := bent pz 5) (x := 480) hs.know hbent (by rw [hp4]; kernel_rfl))) rfl rfl trivial ?_
      refine o1 rfl (det_neq rfl rfl) rfl rfl trivial ?_
      refine be rfl ?_
      refine k_then ?_
      refine t_condP bne_iff_ne rfl (fun hb => ?_) (fun hb => ?_)
      · exfalso; simp at hb
      refine t_skip ?_
      refine k_blk ?_
      refine k_then ?_
      refine b0 ?_
      first | (refine o1 rfl (det_addI rfl rfl ?_) rfl rfl trivial ?_; (· omega)) | refine o1 rfl (det_add rfl rfl) rfl rfl trivial ?_
      refine o1 rfl (det_move rfl) rfl rfl trivial ?_
      refine be rfl ?_
      refine k_then ?_
      refine loop_back _ (by first | omega | decide) (by first | omega | decide) ⟨rfl, rfl, rfl, rfl, rfl, rfl, rfl, rfl, rfl, rfl, rfl, rfl, trivial⟩ (.cons _ (.refl _))
  ·
    refine t_exit ?_
    refine k_thenE ?_
    refine k_thenE ?_
    refine k_blkE ?_
    refine k_then ?_
    refine t_seq ?_
    refine b0 ?_
    refine o1 rfl (det_loadN tN68 rfl rfl (.tail _ (.tail _ (.tail _ (.tail _ (.tail _ (.tail _ (.tail _ (.tail _ (.tail _ (.tail _ (.head _))))))))))) rfl) rfl rfl trivial ?_
    refine oF nofun rfl hb44 rfl rfl rfl trivial (fun w1 hs => end_at (p2 := pK5 (opL A1 n1 k1 1)) (i := dIt) (b := false) (y := 0) (t := 88) hs.know hKe (by rw [hp4]; kernel_rfl)) (fun vf F17 hF17 hNF17 ⟨Bf, mf, df, msf, hvf, hKf⟩ => ?_)
    subst hvf
    refine o1 rfl (det_move rfl) rfl rfl trivial ?_
    refine o1 rfl (det_extract rfl rfl) rfl rfl trivial ?_
    refine o1 rfl (det_extract rfl rfl) rfl rfl trivial ?_
    refine o1 rfl (det_extract rfl rfl) rfl rfl trivial ?_
    refine o1 rfl (det_extract rfl rfl) rfl rfl trivial ?_
    refine om1 rfl (new_alloc z55) rfl rfl trivial (fun p30 => ?_)
    refine stN nofun rfl tN68 rfl rfl rfl (.tail (.tail (.tail (.tail (.tail (.tail (.tail (.tail (.tail (.tail (.tail .head))))))))))) rfl trivial rfl rfl ?_
    refine stN nofun rfl tN55 rfl rfl rfl .head rfl trivial rfl rfl ?_
    refine o1 rfl (det_assign rfl) rfl rfl trivial ?_
    refine o1 rfl (det_assign rfl) rfl rfl trivial ?_
    refine be rfl ?_
    refine k_then ?_
    refine t_seq ?_
    refine b0 ?_
    refine o1 rfl (det_loadN tN68 rfl rfl (.tail _ (.tail _ (.tail _ (.tail _ (.tail _ (.tail _ (.tail _ (.tail _ (.tail _ (.tail _ (.tail _ (.head _)))))))))))) rfl) rfl rfl trivial ?_
    refine oF nofun rfl hb46 rfl rfl rfl trivial (fun w1 hs => choose_at (p2 := pK6 (opL A1 n1 k1 1)) (y := 0) (t := 88) hs.know hKf (by kernel_rfl)) (fun vg F18 hF18 hNF18 ⟨Bg, mg, dg, msg, hvg, hKg⟩ => ?_)
    subst hvg
    refine o1 rfl (det_move rfl) rfl rfl trivial ?_
    refine o1 rfl (det_extract rfl rfl) rfl rfl trivial ?_
    refine o1 rfl (det_extract rfl rfl) rfl rfl trivial ?_
    refine stN nofun rfl tN68 rfl rfl rfl (.tail (.tail (.tail (.tail (.tail (.tail (.tail (.tail (.tail (.tail (.tail .head))))))))))) rfl trivial rfl rfl ?_
    refine o1 rfl (det_assign rfl) rfl rfl trivial ?_
    refine be rfl ?_
    refine k_then ?_
    refine t_seq ?_
    refine t_seq ?_
    refine b0 ?_
    refine o1 rfl (det_move rfl) rfl rfl trivial ?_
    refine o1 rfl (det_neq rfl rfl) rfl rfl trivial ?_
    refine o2P bne_iff_ne rfl (det_move rfl) rfl rfl trivial (fun hb => ?_) (fun hb => ?_)
    · exfalso; first | exact hb rfl | (simp at hb; done) | (revert hb; decide)
    refine o1 rfl (det_move rfl) rfl rfl ⟨_, rfl, rfl⟩ ?_
    refine o1 rfl (det_neq rfl rfl) rfl rfl ⟨_, rfl, rfl⟩ ?_
    refine o1 rfl (det_pickF rfl rfl) rfl rfl trivial ?_
    refine o2P bne_iff_ne rfl (det_move rfl) rfl rfl trivial (fun hb => ?_) (fun hb => ?_)
    · exfalso; first | exact hb rfl | (simp at hb; done) | (revert hb; decide)
    refine o1 rfl (det_move rfl) rfl rfl ⟨_, rfl, rfl⟩ ?_
    refine o1 rfl (det_pickF rfl rfl) rfl rfl trivial ?_
    refine o2P Iff.rfl rfl (det_move rfl) rfl rfl trivial (fun hb => ?_) (fun hb => ?_)
    · exfalso; first | exact hb rfl | (simp at hb; done) | (revert hb; decide)
    refine o1 rfl (det_fieldAddr fld68_4 rfl) rfl rfl ⟨_, rfl, rfl⟩ ?_
    refine o1 rfl (det_loadN tN57 rfl rfl (.tail _ (.tail _ (.tail _ (.tail _ (.tail _ (.tail _ (.tail _ (.tail _ (.tail _ (.tail _ (.tail _ (.head _)))))))))))) rfl) rfl rfl ⟨_, rfl, rfl⟩ ?_
    refine o1 rfl (det_loadN tN55 rfl rfl (.tail _ (.tail _ (.tail _ (.tail _ (.tail _ (.tail _ (.tail _ (.tail _ (.tail _ (.head _)))))))))) rfl) rfl rfl ⟨_, rfl, rfl⟩ ?_
    refine o1 rfl (det_build rfl (fun w => bld57_0_1 _ _ _ _ _ _ w)) rfl rfl ⟨_, rfl, rfl⟩ ?_
    refine o1 rfl (det_neqS rfl rfl eqg57 (fun w => eq57 _ _ _ _ _ _ _ _ _ _ _ _ _ _ w)) rfl rfl ⟨_, rfl, rfl⟩ ?_
    refine o1 rfl (det_pickF rfl rfl) rfl rfl trivial ?_
    refine o2P Iff.rfl rfl (det_move rfl) rfl rfl trivial (fun hb => ?_) (fun hb => ?_)
    · exfalso; have h9 : (pK6 (opL A1 n1 k1 1)).snd = ⟨fB, 100, false⟩ := (by kernel_rfl); rw [h9] at hb; revert hb; decide
    refine o1 rfl (det_fieldAddr fld68_6 rfl) rfl rfl ⟨_, rfl, rfl⟩ ?_
    refine o1 rfl (det_load1 t1_3 rfl rfl (.tail _ (.tail _ (.tail _ (.tail _ (.tail _ (.tail _ (.tail _ (.tail _ (.tail _ (.tail _ (.tail _ (.head _)))))))))))) rfl) rfl rfl ⟨_, rfl, rfl⟩ ?_
    refine o1 rfl (det_neq rfl rfl) rfl rfl ⟨_, rfl, rfl⟩ ?_
    refine o1 rfl (det_pickF rfl rfl) rfl rfl trivial ?_
    refine be rfl ?_
    refine k_then ?_
    refine t_condP bne_iff_ne rfl (fun hb => ?_) (fun hb => ?_)
    · exfalso; refine hb ?_; kernel_rfl
    refine t_skip ?_
    refine k_then ?_
    refine t_seq ?_
    refine b0 ?_
    refine o1 rfl (det_loadN tN68 rfl rfl (.tail _ (.tail _ (.tail _ (.tail _ (.tail _ (.tail _ (.tail _ (.tail _ (.tail _ (.tail _ (.tail _ (.head _)))))))))))) rfl) rfl rfl trivial ?_
    refine oF nofun rfl hb44 rfl rfl rfl trivial (fun w1 hs => end_at (p2 := pK7 (opL A1 n1 k1 1)) (i := fB) (b := true) (y := 0) (t := 188) hs.know hKg (by kernel_rfl)) (fun vh F19 hF19 hNF19 ⟨Bh, mh, dh, msh, hvh, hKh⟩ => ?_)
    subst hvh
    refine o1 rfl (det_move rfl) rfl rfl trivial ?_
    refine o1 rfl (det_extract rfl rfl) rfl rfl trivial ?_
    refine o1 rfl (det_extract rfl rfl) rfl rfl trivial ?_
    refine o1 rfl (det_extract rfl rfl) rfl rfl trivial ?_
    refine o1 rfl (det_extract rfl rfl) rfl rfl trivial ?_
    refine om1 rfl (new_alloc z55) rfl rfl trivial (fun p34 => ?_)
    refine stN nofun rfl tN68 rfl rfl rfl (.tail (.tail (.tail (.tail (.tail (.tail (.tail (.tail (.tail (.tail (.tail (.tail .head)))))))))))) rfl trivial rfl rfl ?_
    refine stN nofun rfl tN55 rfl rfl rfl .head rfl trivial rfl rfl ?_
    refine o1 rfl (det_assign rfl) rfl rfl trivial ?_
    refine o1 rfl (det_assign rfl) rfl rfl trivial ?_
    refine be rfl ?_
    refine k_then ?_
    refine t_seq ?_
    refine b0 ?_
    refine o1 rfl (det_loadN tN68 rfl rfl (.tail _ (.tail _ (.tail _ (.tail _ (.tail _ (.tail _ (.tail _ (.tail _ (.tail _ (.tail _ (.tail _ (.tail _ (.head _))))))))))))) rfl) rfl rfl trivial ?_
    refine oF nofun rfl hb46 rfl rfl rfl trivial (fun w1 hs => choose_at (p2 := pK8 (opL A1 n1 k1 1)) (y := 0) (t := 188) hs.know hKh (by kernel_rfl)) (fun vi F20 hF20 hNF20 ⟨Bi, mi, di, msi, hvi, hKi⟩ => ?_)
    subst hvi
    refine o1 rfl (det_move rfl) rfl rfl trivial ?_
    refine o1 rfl (det_extract rfl rfl) rfl rfl trivial ?_
    refine o1 rfl (det_extract rfl rfl) rfl rfl trivial ?_
    refine stN nofun rfl tN68 rfl rfl rfl (.tail (.tail (.tail (.tail (.tail (.tail (.tail (.tail (.tail (.tail (.tail (.tail .head)))))))))))) rfl trivial rfl rfl ?_
    refine o1 rfl (det_assign rfl) rfl rfl trivial ?_
    refine be rfl ?_
    refine k_then ?_
    refine t_seq ?_
    refine t_seq ?_
    refine b0 ?_
    refine o1 rfl (det_move rfl) rfl rfl trivial ?_
    refine o1 rfl (det_neq rfl rfl) rfl rfl trivial ?_
    refine o2P bne_iff_ne rfl (det_move rfl) rfl rfl trivial (fun hb => ?_) (fun hb => ?_)
    · exfalso; first | exact hb rfl | (simp at hb; done) | (revert hb; decide)
    refine o1 rfl (det_move rfl) rfl rfl ⟨_, rfl, rfl⟩ ?_
    refine o1 rfl (det_neq rfl rfl) rfl rfl ⟨_, rfl, rfl⟩ ?_
    refine o1 rfl (det_pickF rfl rfl) rfl rfl trivial ?_
    refine o2P bne_iff_ne rfl (det_move rfl) rfl rfl trivial (fun hb => ?_) (fun hb => ?_)
    · exfalso; first | exact hb rfl | (simp at hb; done) | (revert hb; decide)
    refine o1 rfl (det_move rfl) rfl rfl ⟨_, rfl, rfl⟩ ?_
    refine o1 rfl (det_not rfl) rfl rfl ⟨_, rfl, rfl⟩ ?_
    refine o1 rfl (det_pickF rfl rfl) rfl rfl trivial ?_
    refine o2P not_iff_false rfl (det_move rfl) rfl rfl trivial (fun hb => ?_) (fun hb => ?_)
    · exfalso; first | exact hb rfl | (simp at hb; done) | (revert hb; decide)
    refine o1 rfl (det_loadN tN55 rfl rfl (.head _) rfl) rfl rfl ⟨_, rfl, rfl⟩ ?_
    refine o1 rfl (det_loadN tN55 rfl rfl (.tail _ (.tail _ (.tail _ (.tail _ (.tail _ (.tail _ (.tail _ (.tail _ (.tail _ (.tail _ (.head _))))))))))) rfl) rfl rfl ⟨_, rfl, rfl⟩ ?_
    refine o1 rfl (det_neqS rfl rfl eqg55 (fun w => eq55 _ _ _ _ _ _ _ _ _ _ w)) rfl rfl ⟨_, rfl, rfl⟩ ?_
    refine o1 rfl (det_pickF rfl rfl) rfl rfl trivial ?_
    refine o2P Iff.rfl rfl (det_move rfl) rfl rfl trivial (fun hb => ?_) (fun hb => ?_)
    · exfalso; first | exact hb rfl | (simp at hb; done) | (revert hb; decide)
    refine o1 rfl (det_fieldAddr fld68_4 rfl) rfl rfl ⟨_, rfl, rfl⟩ ?_
    refine o1 rfl (det_loadN tN57 rfl rfl (.tail _ (.tail _ (.tail _ (.tail _ (.tail _ (.tail _ (.tail _ (.tail _ (.tail _ (.tail _ (.tail _ (.tail _ (.head _))))))))))))) rfl) rfl rfl ⟨_, rfl, rfl⟩ ?_
    refine o1 rfl (det_loadN tN55 rfl rfl (.tail _ (.tail _ (.tail _ (.tail _ (.tail _ (.tail _ (.tail _ (.tail _ (.tail _ (.tail _ (.tail _ (.head _)))))))))))) rfl) rfl rfl ⟨_, rfl, rfl⟩ ?_
    refine o1 rfl (det_build rfl (fun w => bld57_0_1_2 _ _ _ _ _ _ _ w)) rfl rfl ⟨_, rfl, rfl⟩ ?_
    refine o1 rfl (det_neqS rfl rfl eqg57 (fun w => eq57 _ _ _ _ _ _ _ _ _ _ _ _ _ _ w)) rfl rfl ⟨_, rfl, rfl⟩ ?_
    refine o1 rfl (det_pickF rfl rfl) rfl rfl trivial ?_
    refine o2P Iff.rfl rfl (det_move rfl) rfl rfl trivial (fun hb => ?_) (fun hb => ?_)
    · exfalso; have h9 : (pK8 (opL A1 n1 k1 1)).snd = ⟨fA, 160, true⟩ := (by kernel_rfl); rw [h9] at hb; revert hb; decide
    refine o1 rfl (det_fieldAddr fld68_6 rfl) rfl rfl ⟨_, rfl, rfl⟩ ?_
    refine o1 rfl (det_load1 t1_3 rfl rfl (.tail _ (.tail _ (.tail _ (.tail _ (.tail _ (.tail _ (.tail _ (.tail _ (.tail _ (.tail _ (.tail _ (.tail _ (.head _))))))))))))) rfl) rfl rfl ⟨_, rfl, rfl⟩ ?_
    refine o1 rfl (det_neq rfl rfl) rfl rfl ⟨_, rfl, rfl⟩ ?_
    refine o1 rfl (det_pickF rfl rfl) rfl rfl trivial ?_
    refine be rfl ?_
    refine k_then ?_
    refine t_condP bne_iff_ne rfl (fun hb => ?_) (fun hb => ?_)
    · exfalso; refine hb ?_; kernel_rfl
    refine t_skip ?_
    refine k_then ?_
    refine t_seq ?_
    refine b0 ?_
    refine o1 rfl (det_loadN tN68 rfl rfl (.tail _ (.tail _ (.tail _ (.tail _ (.tail _ (.tail _ (.tail _ (.tail _ (.tail _ (.tail _ (.tail _ (.tail _ (.head _))))))))))))) rfl) rfl rfl trivial ?_
    refine oF nofun rfl hb44 rfl rfl rfl trivial (fun w1 hs => end_at (p2 := pK9 (opL A1 n1 k1 1)) (i := fA) (b := true) (y := 0) (t := 348) hs.know hKi (by kernel_rfl)) (fun vj F21 hF21 hNF21 ⟨Bj, mj, dj, msj, hvj, hKj⟩ => ?_)
    subst hvj
    refine o1 rfl (det_move rfl) rfl rfl trivial ?_
    refine o1 rfl (det_extract rfl rfl) rfl rfl trivial ?_
    refine o1 rfl (det_extract rfl rfl) rfl rfl trivial ?_
    refine o1 rfl (det_extract rfl rfl) rfl rfl trivial ?_
    refine o1 rfl (det_extract rfl rfl) rfl rfl trivial ?_
    refine om1 rfl (new_alloc z55) rfl rfl trivial (fun p37 => ?_)
    refine stN nofun rfl tN68 rfl rfl rfl (.tail (.tail (.tail (.tail (.tail (.tail (.tail (.tail (.tail (.tail (.tail (.tail (.tail .head))))))))))))) rfl trivial rfl rfl ?_
    refine stN nofun rfl tN55 rfl rfl rfl .head rfl trivial rfl rfl ?_
    refine o1 rfl (det_assign rfl) rfl rfl trivial ?_
    refine o1 rfl (det_assign rfl) rfl rfl trivial ?_
    refine be rfl ?_
    refine k_then ?_
    refine t_seq ?_
    refine b0 ?_
    refine o1 rfl (det_move rfl) rfl rfl trivial ?_
    refine o1 rfl (det_eql rfl rfl) rfl rfl trivial ?_
    refine o2P beq_iff_eq rfl (det_move rfl) rfl rfl trivial (fun hb => ?_) (fun hb => ?_)
    rotate_left
    · exfalso; first | exact hb rfl | (simp at hb; done) | (revert hb; decide)
    refine o1 rfl (det_move rfl) rfl rfl ⟨_, rfl, rfl⟩ ?_
    refine o1 rfl (det_eql rfl rfl) rfl rfl ⟨_, rfl, rfl⟩ ?_
    refine o1 rfl (det_pickT rfl rfl) rfl rfl trivial ?_
    refine o2P beq_iff_eq rfl (det_move rfl) rfl rfl trivial (fun hb => ?_) (fun hb => ?_)
    rotate_left
    · exfalso; first | exact hb rfl | (simp at hb; done) | (revert hb; decide)
    refine o1 rfl (det_move rfl) rfl rfl ⟨_, rfl, rfl⟩ ?_
    refine o1 rfl (det_eql rfl rfl) rfl rfl ⟨_, rfl, rfl⟩ ?_
    refine o1 rfl (det_pickT rfl rfl) rfl rfl trivial ?_
    refine o2P beq_iff_eq rfl (det_move rfl) rfl rfl trivial (fun hb => ?_) (fun hb => ?_)
    rotate_left
    · exfalso; first | exact hb rfl | (simp at hb; done) | (revert hb; decide)
    refine o1 rfl (det_move rfl) rfl rfl ⟨_, rfl, rfl⟩ ?_
    refine o1 rfl (det_eql rfl rfl) rfl rfl ⟨_, rfl, rfl⟩ ?_
    refine o1 rfl (det_pickT rfl rfl) rfl rfl trivial ?_
    refine o2P beq_iff_eq rfl (det_move rfl) rfl rfl trivial (fun hb => ?_) (fun hb => ?_)
    rotate_left
    · exfalso; first | exact hb rfl | (simp at hb; done) | (revert hb; decide)
    refine o1 rfl (det_move rfl) rfl rfl ⟨_, rfl, rfl⟩ ?_
    refine o1 rfl (det_eql rfl rfl) rfl rfl ⟨_, rfl, rfl⟩ ?_
    refine o1 rfl (det_pickT rfl rfl) rfl rfl trivial ?_
    refine o2P beq_iff_eq rfl (det_move rfl) rfl rfl trivial (fun hb => ?_) (fun hb => ?_)
    rotate_left
    · exfalso; first | exact hb rfl | (simp at hb; done) | (revert hb; decide)
    refine o1 rfl (det_move rfl) rfl rfl ⟨_, rfl, rfl⟩ ?_
    refine o1 rfl (det_eql rfl rfl) rfl rfl ⟨_, rfl, rfl⟩ ?_
    refine o1 rfl (det_pickT rfl rfl) rfl rfl trivial ?_
    refine o2P beq_iff_eq rfl (det_move rfl) rfl rfl trivial (fun hb => ?_) (fun hb => ?_)
    rotate_left
    · exfalso; first | exact hb rfl | (simp at hb; done) | (revert hb; decide)
    refine o1 rfl (det_move rfl) rfl rfl ⟨_, rfl, rfl⟩ ?_
    refine o1 rfl (det_eql rfl rfl) rfl rfl ⟨_, rfl, rfl⟩ ?_
    refine o1 rfl (det_pickT rfl rfl) rfl rfl trivial ?_
    refine o2P beq_iff_eq rfl (det_move rfl) rfl rfl trivial (fun hb => ?_) (fun hb => ?_)
    rotate_left
    · exfalso; first | exact hb rfl | (simp at hb; done) | (revert hb; decide)
    refine o1 rfl (det_move rfl) rfl rfl ⟨_, rfl, rfl⟩ ?_
    refine o1 rfl (det_eql rfl rfl) rfl rfl ⟨_, rfl, rfl⟩ ?_
    refine o1 rfl (det_pickT rfl rfl) rfl rfl trivial ?_
    refine o2P beq_iff_eq rfl (det_move rfl) rfl rfl trivial (fun hb => ?_) (fun hb => ?_)
    rotate_left
    · exfalso; first | exact hb rfl | (simp at hb; done) | (revert hb; decide)
    refine o1 rfl (det_move rfl) rfl rfl ⟨_, rfl, rfl⟩ ?_
    refine o1 rfl (det_pickT rfl rfl) rfl rfl trivial ?_
    refine o2P Iff.rfl rfl (det_move rfl) rfl rfl trivial (fun hb => ?_) (fun hb => ?_)
    rotate_left
    · exfalso; first | exact hb rfl | (simp at hb; done) | (revert hb; decide)
    refine o1 rfl (det_loadN tN55 rfl rfl (.head _) rfl) rfl rfl ⟨_, rfl, rfl⟩ ?_
    refine o1 rfl (det_loadN tN55 rfl rfl (.tail _ (.tail _ (.tail _ (.tail _ (.tail _ (.tail _ (.tail _ (.tail _ (.tail _ (.tail _ (.tail _ (.tail _ (.head _))))))))))))) rfl) rfl rfl ⟨_, rfl, rfl⟩ ?_
    refine o1 rfl (det_eqlS rfl rfl eqg55 (fun w => eq55 _ _ _ _ _ _ _ _ _ _ w)) rfl rfl ⟨_, rfl, rfl⟩ ?_
    refine o1 rfl (det_pickT rfl rfl) rfl rfl trivial ?_
    refine o2P Iff.rfl rfl (det_move rfl) rfl rfl trivial (fun hb => ?_) (fun hb => ?_)
    rotate_left
    · exfalso; first | exact hb rfl | (simp at hb; done) | (revert hb; decide)
    refine o1 rfl (det_fieldAddr fld68_3 rfl) rfl rfl ⟨_, rfl, rfl⟩ ?_
    refine o1 rfl (det_load1 t1_4 rfl rfl (.tail _ (.tail _ (.tail _ (.tail _ (.tail _ (.tail _ (.tail _ (.tail _ (.tail _ (.tail _ (.tail _ (.tail _ (.tail _ (.head _)))))))))))))) rfl) rfl rfl ⟨_, rfl, rfl⟩ ?_
    refine o1 rfl (det_not rfl) rfl rfl ⟨_, rfl, rfl⟩ ?_
    refine o1 rfl (det_pickT rfl rfl) rfl rfl trivial ?_
    refine o2P not_iff_false rfl (det_move rfl) rfl rfl trivial (fun hb => ?_) (fun hb => ?_)
    rotate_left
    · exfalso; refine hb ?_; kernel_rfl
    refine o1 rfl (det_fieldAddr fld68_1 rfl) rfl rfl ⟨_, rfl, rfl⟩ ?_
    refine o1 rfl (det_load1 t1_3 rfl rfl (.tail _ (.tail _ (.tail _ (.tail _ (.tail _ (.tail _ (.tail _ (.tail _ (.tail _ (.tail _ (.tail _ (.tail _ (.tail _ (.head _)))))))))))))) rfl) rfl rfl ⟨_, rfl, rfl⟩ ?_
    refine o1 rfl (det_eql rfl rfl) rfl rfl ⟨_, rfl, rfl⟩ ?_
    refine o1 rfl (det_pickT rfl rfl) rfl rfl trivial ?_
    refine o1 rfl (det_assign rfl) rfl rfl trivial ?_
    refine be rfl ?_
    refine k_then ?_
    refine t_ret ?_
    refine ret_tmp rfl rfl rfl (fun w1 hs => ?_)
    exact ⟨by have h9 : (pK9 (opL A1 n1 k1 1)).now = 348 := (by kernel_rfl); rw [h9]; rfl, hs.keep⟩
end Go.Proofs.Cp
