/-
  The contracts of layer 29 at results that are known.
-/
import Derived.Test.YtgaliocgkjghnaaSwW15
namespace Go.Proofs.Sw
open Go Go.Eng Go.Gt Go.Sw Go.Proofs.Gt
variable {w : World} {F : Know}
theorem list_gl (hF : ∀ a v, F a = some v → w.cell? a = some v) {p : Nat} (es : Ents) {cs : List Value} (hK : ∀ k u, cs[k]? = some u → F ⟨p, k, none⟩ = some u) (hcs : cs = cellsE es) (hr : rngE es) (hl : es.length ≤ 200) (hbd : ∀ (i : Nat) (h : i < es.length), -20000000 ≤ es[i].2 ∧ es[i].2 ≤ 20000000) {cap : Nat} :
    CallsF Try.prog 32 [.slice (some ⟨p, 0, none⟩) (es.length * 2) cap] w noK (fun v F1 => ∃ A1 cap1, v = .agg (glv ⟨A1, es.length, cap1, es, sumL es⟩).toArray ∧ GlK F1 ⟨A1, es.length, cap1, es, sumL es⟩) :=
  (list_ok hF (entK_lit hr (by rw [← hcs]; exact hK)) hl hbd).mono fun v F' ⟨A1, cap1, h1, _, h3⟩ => ⟨A1, cap1, h1, h3⟩
theorem new29_at (hF : ∀ a v, F a = some v → w.cell? a = some v) {g : Gl} (hE : GlK F g) {t : Int} {r : Ch} {er : Int} (e : newC g t = (r, er)) : Pure Try.prog 21 [.agg (glv g).toArray, .int .i64 t] w (.tuple [.agg (chv r).toArray, .int .i64 er].toArray) := by
  have := new29_ok hF hE (t := t)
  rw [e] at this; exact this
theorem set_at (hF : ∀ a v, F a = some v → w.cell? a = some v) {c : Ch} (hC : ChK F c) {g : Gl} (hE : GlK F g) {now base : Int} {r : Ch} {er : Int} (e : setC c now g base = (r, er)) : Pure Try.prog 29 [.agg (chv c).toArray, .int .i64 now, .agg (glv g).toArray, .int .i64 base] w (.tuple [.agg (chv r).toArray, .int .i64 er].toArray) := by
  have := set_ok hF hC hE (now := now) (base := base)
  rw [e] at this; exact this
theorem adv_at (hF : ∀ a v, F a = some v → w.cell? a = some v) {c : Ch} (hC : ChK F c) {now : Int} {r : Ch} {er : Int} (e : advC c now = (r, er)) : Pure Try.prog 28 [.agg (chv c).toArray, .int .i64 now] w (.tuple [.agg (chv r).toArray, .int .i64 er].toArray) := by
  have := adv_ok hF hC (now := now)
  rw [e] at this; exact this
theorem hmask_at (hF : ∀ a v, F a = some v → w.cell? a = some v) {c : Ch} (hC : ChK F c) {t m : Int} (e : (if (maskC c t).2 = 0 then (maskC c t).1 else -1) = m) : Pure Try.prog 30 [.agg (chv c).toArray, .int .i64 t] w (.int .i64 m) := by
  have := hmask29_ok hF hC (t := t)
  rw [e] at this; exact this
theorem mask_at3 (hF : ∀ a v, F a = some v → w.cell? a = some v) {c : Ch} (hC : ChK F c) {t m er : Int} (e : maskC c t = (m, er)) : Pure Try.prog 19 [.agg (chv c).toArray, .int .i64 t] w (.tuple [.int .i64 m, .int .i64 er].toArray) := by
  have := mask29_ok hF hC (t := t)
  rw [e] at this; exact this
theorem hfits_at (hF : ∀ a v, F a = some v → w.cell? a = some v) {c : Ch} (hC : ChK F c) {cl t lg : Int} (hcl : -9223372036854775808 ≤ cl ∧ cl ≤ 9223372036854775807) {b : Bool} (e : ((fitsC c cl t lg).1 && decide ((fitsC c cl t lg).2 = 0)) = b) : Pure Try.prog 31 [.agg (chv c).toArray, .int .i64 cl, .int .i64 t, .int .i64 lg] w (.bool b) := by
  have := hfits29_ok hF hC hcl (t := t) (lg := lg)
  rw [e] at this; exact this
theorem fits_at (hF : ∀ a v, F a = some v → w.cell? a = some v) {c : Ch} (hC : ChK F c) {cl t lg : Int} (hcl : -9223372036854775808 ≤ cl ∧ cl ≤ 9223372036854775807) {b : Bool} {er : Int} (e : fitsC c cl t lg = (b, er)) : Pure Try.prog 25 [.agg (chv c).toArray, .int .i64 cl, .int .i64 t, .int .i64 lg] w (.tuple [.bool b, .int .i64 er].toArray) := by
  have := fits29_ok hF hC hcl (t := t) (lg := lg)
  rw [e] at this; exact this
theorem check_at29 (hF : ∀ a v, F a = some v → w.cell? a = some v) {c : Ch} (hC : ChK F c) {er : Int} (e : checkC c = er) : Pure Try.prog 17 [.agg (chv c).toArray] w (.int .i64 er) := by
  rw [← e]; exact check29_ok hF hC
theorem Same_at (hF : ∀ a v, F a = some v → w.cell? a = some v) {a b : Ch} (ha : ChK F a) (hb0 : ChK F b) (hn : a.op.n ≤ 100000) (hn2 : a.ad.n ≤ 100000) {x : Bool} (e : sameC a b = x) : Pure Try.prog 23 [.agg (chv a).toArray, .agg (chv b).toArray] w (.bool x) := by
  rw [← e]; exact Same_ok hF ha hb0 hn hn2
end Go.Proofs.Sw
