/-
  Fits, in plain terms.
-/
import Derived.Test.YtffocfffggfenaaSwPlain2
namespace Go.Sw
open Go Go.Eng Go.Gt Go.Proofs.Gt
theorem atC_rng {c : Ch} (h : OkC c) (x : Int) : 0 ≤ atC c x ∧ atC c x ≤ 255 := by
  rw [atC_gl]; exact state_rng (h.gl x) _
theorem stL_mem {c : Ch} {e : Int} : ∀ (k : Nat) (x m : Int), m ∈ stL c e k x → ∃ y, m = atC c y
  | 0, x, m, h => by simp [stL] at h
  | k + 1, x, m, h => by
    unfold stL at h
    split at h
    · rcases List.mem_cons.1 h with rfl | h
      · exact ⟨x, rfl⟩
      · exact stL_mem k _ m h
    · simp at h
theorem stW_rng {c : Ch} (h : OkC c) {e x : Int} {k : Nat} (hk : k < (stW c e x).length) : 0 ≤ (stW c e x).getD k 0 ∧ (stW c e x).getD k 0 ≤ 255 := by
  have hm : (stW c e x).getD k 0 ∈ stW c e x := by
    rw [List.getD_eq_getElem?_getD, List.getElem?_eq_getElem hk]; exact List.getElem_mem _
  obtain ⟨y, hy⟩ := stL_mem _ _ _ hm
  rw [hy]; exact atC_rng h y
theorem fitB_false {c : Ch} {cl t lg : Int} {k : Nat} (hk : k < (stW c (t + lg) t).length) (hb : bitE ((stW c (t + lg) t).getD k 0) cl = false) : fitB c cl t lg = false := by
  unfold fitB
  rw [List.all_eq_false]
  refine ⟨_, List.getElem_mem hk, ?_⟩
  rw [List.getD_eq_getElem?_getD, List.getElem?_eq_getElem hk] at hb
  simpa using hb
theorem fitB_true {c : Ch} {cl t lg : Int} (h : ∀ i, i < (stW c (t + lg) t).length → bitE ((stW c (t + lg) t).getD i 0) cl = true) : fitB c cl t lg = true := by
  unfold fitB
  rw [List.all_eq_true]
  intro m hm
  obtain ⟨i, hi, rfl⟩ := List.getElem_of_mem hm
  have := h i hi
  rwa [List.getD_eq_getElem?_getD, List.getElem?_eq_getElem hi] at this
theorem end_facts {c : Ch} {e x : Int} (hx : x < e) : x < endC c e x ∧ endC c e x ≤ e ∧ ∀ y, x ≤ y → y < endC c e x → onAd c y = onAd c x := by
  unfold endC
  cases ho : onAd c x with
  | true =>
    rw [if_pos rfl]
    refine ⟨hx, Int.le_refl _, fun y h1 h2 => ?_⟩
    unfold onAd at ho ⊢; simp at ho ⊢; exact ⟨ho.1, by omega⟩
  | false =>
    rw [if_neg (by simp)]
    unfold onAd at ho
    cases hp : c.pe with
    | true =>
      rw [hp] at ho; simp at ho
      rw [if_pos rfl]
      refine ⟨by omega, by omega, fun y h1 h2 => ?_⟩
      unfold onAd; rw [hp]; simp; omega
    | false =>
      rw [if_neg (by simp)]
      refine ⟨hx, Int.le_refl _, fun y h1 h2 => ?_⟩
      unfold onAd; rw [hp]; simp
theorem ref_next {c : Ch} (h : OkC c) {e x : Int} (hx : x < e) {g : Gl} {b en : Int} (h1 : glC c x = g) (h2 : begC c x = b) (h3 : endC c e x = en) :
    ∃ hi : (loc g.es g.cyc (x - b)).1 < g.es.length, (0 ≤ (loc g.es g.cyc (x - b)).2 ∧ (loc g.es g.cyc (x - b)).2 < (g.es[(loc g.es g.cyc (x - b)).1]).2) ∧ (g.es[(loc g.es g.cyc (x - b)).1]).1 = atC c x ∧ (1 ≤ (g.es[(loc g.es g.cyc (x - b)).1]).2 ∧ (g.es[(loc g.es g.cyc (x - b)).1]).2 ≤ 9600000) ∧
      x < min en (x - (loc g.es g.cyc (x - b)).2 + (g.es[(loc g.es g.cyc (x - b)).1]).2) ∧ ∀ y, x ≤ y → y < min en (x - (loc g.es g.cyc (x - b)).2 + (g.es[(loc g.es g.cyc (x - b)).1]).2) → atC c y = atC c x := by
  have hG := h.gl x
  rw [h1] at hG
  obtain ⟨hi, hy0, hy1, _⟩ := loc_spec hG (x - b)
  have hen := end_facts (c := c) hx
  rw [h3] at hen
  have he := okE_get (okG_parts hG).2.2.1 hi
  have hst : stateE g.es g.cyc (x - b) = (g.es[(loc g.es g.cyc (x - b)).1]).1 := by
    rw [stateE, List.getD_eq_getElem?_getD, List.getElem?_eq_getElem hi]; rfl
  have hax : atC c x = stateE g.es g.cyc (x - b) := by rw [atC_gl, h1, h2]
  refine ⟨hi, ⟨hy0, hy1⟩, by rw [hax, hst], ⟨he.2.2.1, he.2.2.2⟩, by omega, fun y k1 k2 => ?_⟩
  have ho := hen.2.2 y k1 (by omega)
  have hay : atC c y = stateE g.es g.cyc (y - b) := by
    rw [atC_gl, ← h1, ← h2]
    unfold glC begC
    rw [ho]
  have hb0 := beg_zero (es := g.es) (cyc := g.cyc) (x - b)
  have hb1 := beg_succ g.es g.cyc (x - b) 0
  have he0 : ent g.es (loc g.es g.cyc (x - b)).1 0 = g.es[(loc g.es g.cyc (x - b)).1] := by
    rw [ent_zero hG, List.getD_eq_getElem?_getD, List.getElem?_eq_getElem hi]; rfl
  rw [he0] at hb1
  rw [hay, state_cover hG (x - b) (i := 0) (Nat.zero_le _) (by omega) (by rw [Nat.zero_add] at hb1 ⊢; omega), hax, hst, he0]
/-- A change that a draft describes, in so far as the laws look at it. -/
structure DrOk (c : Ch) : Prop where
  ok : okC c = true
  n1 : c.op.n ≤ 16
  n2 : c.ad.n ≤ 16
  c1 : 1 ≤ c.op.cyc ∧ c.op.cyc ≤ 320
  c2 : 0 ≤ c.ad.cyc ∧ c.ad.cyc ≤ 320
  base : -32768 ≤ c.base ∧ c.base ≤ 32767
  wh : -100000 ≤ c.wh ∧ c.wh ≤ 100000
def bendC (what N : Int) (g : Gl) (c : Ch) : Ch :=
  if what % 6 = 0 then { c with op := g } else if what % 6 = 1 then { c with ad := g } else if what % 6 = 2 then { c with base := N } else if what % 6 = 3 then { c with wh := N }
  else if what % 6 = 4 then { c with pe := !c.pe } else { c with wh := c.wh + N.tmod 3 }
theorem tm3 (d : Int) : -3 < d.tmod 3 ∧ d.tmod 3 < 3 := by
  have h1 := Int.tmod_lt_of_pos d (b := 3) (by decide)
  have h2 : (-d).tmod 3 < 3 := Int.tmod_lt_of_pos (-d) (by decide)
  rw [Int.neg_tmod] at h2
  omega
theorem bend_k {F : Know} {what N : Int} {g : Gl} {c : Ch} (hg : GlK F g) (hC : ChK F c) : ChK F (bendC what N g c) := by
  unfold bendC
  repeat' split
  · exact ⟨hg, hC.ad⟩
  · exact ⟨hC.op, hg⟩
  all_goals exact ⟨hC.op, hC.ad⟩
theorem bend_n {what N : Int} {g : Gl} {c : Ch} (hg : g.n ≤ 130) (h1 : c.op.n ≤ 130) (h2 : c.ad.n ≤ 130) : (bendC what N g c).op.n ≤ 130 ∧ (bendC what N g c).ad.n ≤ 130 := by
  unfold bendC
  repeat' split
  all_goals exact ⟨by assumption, by assumption⟩
theorem GlK.takeK {F : Know} {g : Gl} (h : GlK F g) (k : Nat) : GlK F { g with n := min k g.n, es := g.es.take k } := EntK.take h k
end Go.Sw
namespace Go.Sw
open Go Go.Eng Go.Gt Go.Proofs.Gt
theorem new_k {F : Know} {g : Gl} {t : Int} (hg : GlK F g) : ChK F (newC g t).1 := by
  unfold newC
  repeat' split
  · exact ⟨hg, g0_k F⟩
  · exact c0_k F
  · exact c0_k F
theorem new_n {g : Gl} {t : Int} (hg : g.n ≤ 130) : (newC g t).1.op.n ≤ 100000 ∧ (newC g t).1.ad.n ≤ 100000 := by
  unfold newC
  repeat' split
  · exact ⟨by dsimp only; omega, Nat.zero_le _⟩
  · exact ⟨Nat.zero_le _, Nat.zero_le _⟩
  · exact ⟨Nat.zero_le _, Nat.zero_le _⟩
theorem tmK (d : Int) {k : Int} (hk : 0 < k) : -k < d.tmod k ∧ d.tmod k < k := by
  have h1 := Int.tmod_lt_of_pos d (b := k) hk
  have h2 : (-d).tmod k < k := Int.tmod_lt_of_pos (-d) hk
  rw [Int.neg_tmod] at h2
  omega
end Go.Sw
namespace Go.Sw
open Go Go.Eng
theorem u64w (x : Int) : 0 ≤ IntKind.u64.wrap x ∧ IntKind.u64.wrap x ≤ 18446744073709551615 := by
  simp only [IntKind.wrap, IntKind.signed, IntKind.bits]
  simp
  omega
end Go.Sw
