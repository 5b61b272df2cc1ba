/-
  Walks through layer 30 and its reference.
-/
import Derived.Test.YtgaliocgkjghnaaSwS5
import Derived.Test.YtgaliocgkjghnaaSvPlain6
namespace Go.Proofs.Sw
open Go Go.Eng Go.Gt Go.Proofs.Gt Go.Sw Go.Sv
set_option maxRecDepth 4000

section
variable {c : Cx} {F : Know} {cp rest : Own} {w : World}
theorem satA (hs : Sat c F (cp ++ rest) w) : ∀ a v, F a = some v → a.block ∉ idsO cp := fun a v ha hm => hs.away a v ha (by rw [List.map_append]; exact List.mem_append_left _ hm)
theorem satN (hs : Sat c F (cp ++ rest) w) : (idsO cp).Nodup := by
  have h := hs.nodup
  rw [List.map_append, List.nodup_append] at h
  exact h.1
theorem satO (hs : Sat c F (cp ++ rest) w) : ∀ y ∈ cp, w.heap[y.1]? = some y.2 := fun y hy => hs.own y (List.mem_append_left _ hy)
end
/-- Of's closure. -/
theorem gap_on {w : World} {F : Know} (hF : ∀ a v, F a = some v → w.cell? a = some v) {q13 q9 q10 q4 q12 : Nat} {A : Option Addr} {n cap : Nat} {L : List (Int × Int)} {lost R per wv got : Int} {i k : Nat} (hL : RowsK o2 2 F A n L) (hD : Dbl L lost) (hl : 0 ≤ lost ∧ lost ≤ 1542000) (hR : 0 ≤ R) (hp : 1 ≤ per ∧ per ≤ 1000) (hRp : R * per ≤ 1048576) (hg : 0 ≤ got ∧ got ≤ 38400000) (hi : i < L.length) (hk : k < L.length) (h13 : F ⟨q13, 0, none⟩ = some (.slice A n cap)) (h9 : F ⟨q9, 0, none⟩ = some (.int .i64 lost)) (h10 : F ⟨q10, 0, none⟩ = some (.int .i64 R)) (h4 : F ⟨q4, 0, none⟩ = some (.int .i64 per)) (haway : ∀ a v, F a = some v → a.block ∉ idsO ([(q12, .cells [.int .i64 (wv)].toArray 3 (0, 0))])) (hnd : (idsO ([(q12, .cells [.int .i64 (wv)].toArray 3 (0, 0))])).Nodup) (hown : ∀ y ∈ ([(q12, .cells [.int .i64 (wv)].toArray 3 (0, 0))] : Own), w.heap[y.1]? = some y.2) : CallsOn Try.prog 70 [.int .i64 (i : Int), .int .i64 (k : Int), .int .i64 got, .pointer (some ⟨q13, 0, none⟩), .pointer (some ⟨q9, 0, none⟩), .pointer (some ⟨q12, 0, none⟩), .pointer (some ⟨q10, 0, none⟩), .pointer (some ⟨q4, 0, none⟩)] w ([(q12, .cells [.int .i64 (wv)].toArray 3 (0, 0))]) (fun v cp1 => v = .tuple #[] ∧ cp1 = [(q12, .cells [.int .i64 (max wv (gapP L lost R per i k got))].toArray 3 (0, 0))]) := by
  have hb1 := hD.at_ i hi
  have hb2 := hD.at_ k hk
  have hnl := hL.len
  obtain ⟨A, rfl⟩ := hL.some hi
  refine fn_on (F := F) Try.func70 rfl Try.ntmps70 rfl hF haway hnd hown ?_
  refine t_seq ?_
  refine bD mixed ?_
  refine r_seg 28 28 [] [0, 1, 2, 3, 4, 5, 6, 7, 8, 9, 10, 11, 12, 13, 14, 15, 16, 17, 18, 19, 20, 21, 22, 23, 24, 25, 26, 27] (by kernel_rfl) ?_
  refine s1 rfl (det_loadK t1_111 rfl h13) rfl rfl trivial rfl ?_
  refine s1 rfl (det_move rfl) rfl rfl trivial rfl ?_
  first | (refine s1 rfl (det_indexAddr sl111 rfl rfl ?_) rfl rfl trivial rfl ?_; (· (first | decide | omega)))
  refine s1 rfl (det_fieldAddr fld117_0 rfl) rfl rfl trivial rfl ?_
  refine s1 rfl (det_loadK t1_3 rfl (hL.cell (k := i) (by omega) hi (u := .int .i64 (atR L i).1) (by rw [atR_get hi]; rfl))) rfl rfl trivial rfl ?_
  refine s1 rfl (det_loadK t1_111 rfl h13) rfl rfl trivial rfl ?_
  refine s1 rfl (det_move rfl) rfl rfl trivial rfl ?_
  first | (refine s1 rfl (det_indexAddr sl111 rfl rfl ?_) rfl rfl trivial rfl ?_; (· (first | decide | omega)))
  refine s1 rfl (det_fieldAddr fld117_1 rfl) rfl rfl trivial rfl ?_
  refine s1 rfl (det_loadK t1_3 rfl (hL.cell (k := i) (by omega) hi (u := .int .i64 (atR L i).2) (by rw [atR_get hi]; rfl))) rfl rfl trivial rfl ?_
  refine s1 rfl (det_loadK t1_3 rfl h9) rfl rfl trivial rfl ?_
  first | (refine s1 rfl (det_subI rfl rfl ?_) rfl rfl trivial rfl ?_; (· omega)) | refine s1 rfl (det_sub rfl rfl) rfl rfl trivial rfl ?_
  refine s1 rfl (det_max2 rfl rfl) rfl rfl trivial rfl ?_
  refine s1 rfl (det_loadK t1_111 rfl h13) rfl rfl trivial rfl ?_
  refine s1 rfl (det_move rfl) rfl rfl trivial rfl ?_
  first | (refine s1 rfl (det_indexAddr sl111 rfl rfl ?_) rfl rfl trivial rfl ?_; (· (first | decide | omega)))
  refine s1 rfl (det_fieldAddr fld117_1 rfl) rfl rfl trivial rfl ?_
  refine s1 rfl (det_loadK t1_3 rfl (hL.cell (k := k) (by omega) hk (u := .int .i64 (atR L k).2) (by rw [atR_get hk]; rfl))) rfl rfl trivial rfl ?_
  refine s1 rfl (det_loadK t1_111 rfl h13) rfl rfl trivial rfl ?_
  refine s1 rfl (det_move rfl) rfl rfl trivial rfl ?_
  first | (refine s1 rfl (det_indexAddr sl111 rfl rfl ?_) rfl rfl trivial rfl ?_; (· (first | decide | omega)))
  refine s1 rfl (det_fieldAddr fld117_0 rfl) rfl rfl trivial rfl ?_
  refine s1 rfl (det_loadK t1_3 rfl (hL.cell (k := k) (by omega) hk (u := .int .i64 (atR L k).1) (by rw [atR_get hk]; rfl))) rfl rfl trivial rfl ?_
  refine s1 rfl (det_loadK t1_3 rfl h9) rfl rfl trivial rfl ?_
  first | (refine s1 rfl (det_addI rfl rfl ?_) rfl rfl trivial rfl ?_; (· omega)) | refine s1 rfl (det_add rfl rfl) rfl rfl trivial rfl ?_
  refine s1 rfl (det_min2 rfl rfl) rfl rfl trivial rfl ?_
  refine s1 rfl (det_assign rfl) rfl rfl trivial rfl ?_
  refine s1 rfl (det_assign rfl) rfl rfl trivial rfl ?_
  refine sg_nil ?_
  refine be rfl ?_
  refine k_then ?_
  refine b0 ?_
  have hpr := prod_rng (x := min (atR L k).2 ((atR L k).1 + lost) - max (atR L i).1 ((atR L i).2 - lost)) (X := 40000000) (by omega) hR hp.1 hRp
  refine o1 rfl (det_load1 t1_3 rfl rfl (.head _) rfl) rfl rfl trivial ?_
  refine o1 rfl (det_move rfl) rfl rfl trivial ?_
  refine o1 rfl (det_move rfl) rfl rfl trivial ?_
  first | (refine o1 rfl (det_subI rfl rfl ?_) rfl rfl trivial ?_; (· omega)) | refine o1 rfl (det_sub rfl rfl) rfl rfl trivial ?_
  refine o1 rfl (det_loadK t1_3 rfl h10) rfl rfl trivial ?_
  first | (refine o1 rfl (det_mulI rfl rfl ?_) rfl rfl trivial ?_; (· omega)) | refine o1 rfl (det_mul rfl rfl) rfl rfl trivial ?_
  refine o1 rfl (det_loadK t1_3 rfl h4) rfl rfl trivial ?_
  first | (refine o1 rfl (det_mulI rfl rfl ?_) rfl rfl trivial ?_; (· omega)) | refine o1 rfl (det_mul rfl rfl) rfl rfl trivial ?_
  refine o1 rfl (det_move rfl) rfl rfl trivial ?_
  first | (refine o1 rfl (det_mulI rfl rfl ?_) rfl rfl trivial ?_; (· omega)) | refine o1 rfl (det_mul rfl rfl) rfl rfl trivial ?_
  first | (refine o1 rfl (det_subI rfl rfl ?_) rfl rfl trivial ?_; (· omega)) | refine o1 rfl (det_sub rfl rfl) rfl rfl trivial ?_
  refine o1 rfl (det_max2 rfl rfl) rfl rfl trivial ?_
  refine st1 nofun rfl t1_3 rfl rfl rfl .head rfl trivial rfl ?_
  refine be rfl ?_
  refine end_none rfl rfl (fun w1 hs => ?_)
  refine end_on (bs := []) hs rfl ⟨rfl, rfl⟩

end Go.Proofs.Sw
