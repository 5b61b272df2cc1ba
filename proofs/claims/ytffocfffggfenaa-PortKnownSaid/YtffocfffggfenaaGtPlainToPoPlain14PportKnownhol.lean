/-
  The texts GtPlain to PoPlain14, one after the other.
-/
import Derived.Test.YtffocfffggfenaaEng12ToEng24PportKnownhol
import Derived.Test.YtffocfffggfenaaEng4ToEng11PportKnownhol
import Derived.Test.YtffocfffggfenaaEng25ToEng34PportKnownhol
/-
  Gate lists in plain mathematics: what the program of layer 27 and its reference compute.
-/
namespace Go.Gt
open Go Go.Eng
abbrev Ents := List (Int × Int)
def okE (e : Int × Int) : Bool := decide (0 ≤ e.1 ∧ e.1 ≤ 255 ∧ 1 ≤ e.2 ∧ e.2 ≤ 9600000)
def sumL (es : Ents) : Int := (es.map (·.2)).sum
def okG (es : Ents) (cyc : Int) : Bool := decide (1 ≤ es.length ∧ es.length ≤ 128) && es.all okE && decide (sumL es = cyc ∧ sumL es ≤ 9600000)
theorem sumL_take_succ (es : Ents) (k : Nat) (h : k < es.length) : sumL (es.take (k + 1)) = sumL (es.take k) + es[k].2 := by
  unfold sumL
  rw [List.take_succ_eq_append_getElem h]
  simp only [List.map_append, List.map_cons, List.map_nil, List.sum_append, List.sum_cons, List.sum_nil, Int.add_zero]
theorem sumL_bounds {es : Ents} (h : es.all okE = true) : (es.length : Int) ≤ sumL es ∧ sumL es ≤ 9600000 * es.length := by
  induction es with
  | nil => simp [sumL]
  | cons e r ih =>
    simp only [List.all_cons, Bool.and_eq_true, okE, decide_eq_true_eq] at h
    have := ih (by simpa [okE] using h.2)
    have e1 : sumL (e :: r) = e.2 + sumL r := by simp [sumL]
    rw [e1]
    simp only [List.length_cons]
    omega
theorem okG_parts {es : Ents} {cyc : Int} (h : okG es cyc = true) : 1 ≤ es.length ∧ es.length ≤ 128 ∧ es.all okE = true ∧ sumL es = cyc ∧ cyc ≤ 9600000 ∧ 1 ≤ cyc := by
  simp only [okG, Bool.and_eq_true, decide_eq_true_eq] at h
  obtain ⟨⟨⟨h1, h2⟩, h3⟩, h4, h5⟩ := h
  have := (sumL_bounds h3).1
  exact ⟨h1, h2, h3, h4, by omega, by omega⟩
theorem okE_get {es : Ents} (h : es.all okE = true) {i : Nat} (hi : i < es.length) : 0 ≤ es[i].1 ∧ es[i].1 ≤ 255 ∧ 1 ≤ es[i].2 ∧ es[i].2 ≤ 9600000 := by
  have := List.all_eq_true.1 h es[i] (List.getElem_mem hi)
  simpa [okE] using this
def locate : Ents → Int → Nat × Int
  | [], x => (0, x)
  | e :: r, x => if e.2 ≤ x then ((locate r (x - e.2)).1 + 1, (locate r (x - e.2)).2) else (0, x)
theorem locate_spec : ∀ (es : Ents) (x : Int), 0 ≤ x → x < sumL es → ∃ h : (locate es x).1 < es.length, 0 ≤ (locate es x).2 ∧ (locate es x).2 < (es[(locate es x).1]).2 ∧ x = sumL (es.take (locate es x).1) + (locate es x).2
  | [], x, h0, h1 => by simp [sumL] at h1; omega
  | e :: r, x, h0, h1 => by
    unfold locate
    have e1 : sumL (e :: r) = e.2 + sumL r := by simp [sumL]
    split
    · rename_i h
      obtain ⟨h2, h3, h4, h5⟩ := locate_spec r (x - e.2) (by omega) (by omega)
      refine ⟨by simpa using h2, h3, by simpa using h4, ?_⟩
      have e2 : sumL ((e :: r).take ((locate r (x - e.2)).1 + 1)) = e.2 + sumL (r.take (locate r (x - e.2)).1) := by simp [sumL]
      rw [e2]; omega
    · rename_i h
      exact ⟨by simp, h0, by simp; omega, by simp [sumL]⟩
theorem locate_step {es : Ents} {x : Int} {i : Nat} (hi : i < es.length) (hx : es[i].2 ≤ x - sumL (es.take i)) (hall : ∀ j (h : j < es.length), j < i → es[j].2 ≤ x - sumL (es.take j)) : ∀ j (h : j < es.length), j < i + 1 → es[j].2 ≤ x - sumL (es.take j) := by
  intro j h hj
  by_cases e : j = i
  · subst e; exact hx
  · exact hall j h (by omega)
theorem locate_of {es : Ents} {x : Int} : ∀ {i : Nat} (hi : i < es.length), (∀ j (h : j < es.length), j < i → es[j].2 ≤ x - sumL (es.take j)) → x - sumL (es.take i) < es[i].2 → locate es x = (i, x - sumL (es.take i)) := by
  induction es generalizing x with
  | nil => intro i hi; simp at hi
  | cons e r ih =>
    intro i hi hall hlt
    unfold locate
    cases i with
    | zero =>
      have : ¬ e.2 ≤ x := by simp [sumL] at hlt; omega
      simp [this, sumL]
    | succ i =>
      have h0 := hall 0 (by simp) (by omega)
      simp [sumL] at h0
      rw [if_pos h0]
      have e3 : ∀ m, sumL ((e :: r).take (m + 1)) = e.2 + sumL (r.take m) := by intro m; simp [sumL]
      have := ih (x := x - e.2) (i := i) (by simpa using hi) (fun j h hj => by
        have h5 := hall (j + 1) (by simpa using h) (by omega)
        rw [e3] at h5
        simp only [List.getElem_cons_succ] at h5
        omega) (by
        rw [e3] at hlt
        simp only [List.getElem_cons_succ] at hlt
        omega)
      rw [this, e3]
      simp only [Prod.mk.injEq]
      exact ⟨trivial, by omega⟩
theorem locate_more {es : Ents} {x : Int} {i : Nat} (hx : x < sumL es) (hi : i ≤ es.length) (h : 0 ≤ x - sumL (es.take i)) : i < es.length := by
  rcases Nat.lt_or_ge i es.length with h' | h'
  · exact h'
  · have : i = es.length := by omega
    subst this
    rw [List.take_length] at h
    omega
end Go.Gt
namespace Go.Gt
open Go Go.Eng
theorem okG_len {es : Ents} {cyc : Int} (h : es.length < 1 ∨ 128 < es.length) : okG es cyc = false := by
  cases e : okG es cyc with
  | false => rfl
  | true => have := okG_parts e; omega
theorem okG_ent {es : Ents} {cyc : Int} {i : Nat} (hi : i < es.length) (h : ¬ (0 ≤ es[i].1 ∧ es[i].1 ≤ 255 ∧ 1 ≤ es[i].2 ∧ es[i].2 ≤ 9600000)) : okG es cyc = false := by
  cases e : okG es cyc with
  | false => rfl
  | true => exact absurd (okE_get (okG_parts e).2.2.1 hi) h
theorem okG_sum {es : Ents} {cyc : Int} (h : sumL es ≠ cyc ∨ 9600000 < sumL es) : okG es cyc = false := by
  cases e : okG es cyc with
  | false => rfl
  | true => have := okG_parts e; omega
theorem okG_true {es : Ents} {cyc : Int} (h1 : 1 ≤ es.length) (h2 : es.length ≤ 128) (h3 : es.all okE = true) (h4 : sumL es = cyc) (h5 : sumL es ≤ 9600000) : okG es cyc = true := by
  simp [okG, h1, h2, h3, h4]; omega
theorem all_take_succ {es : Ents} {k : Nat} (hk : k < es.length) (h : (es.take k).all okE = true) (he : 0 ≤ es[k].1 ∧ es[k].1 ≤ 255 ∧ 1 ≤ es[k].2 ∧ es[k].2 ≤ 9600000) : (es.take (k + 1)).all okE = true := by
  rw [List.take_succ_eq_append_getElem hk, List.all_append, h]
  simp [okE, he]
end Go.Gt
namespace Go.Gt
open Go Go.Eng
def okT (cl t lg : Int) : Bool := decide (0 ≤ cl ∧ cl ≤ 7 ∧ -1099511627776 ≤ t ∧ t ≤ 1099511627776 ∧ 0 ≤ lg ∧ lg ≤ 1099511627776)
def errG (es : Ents) (cyc cl t lg : Int) : Int := if okG es cyc then (if okT cl t lg then 0 else 2) else 370
theorem tmod_norm {t c : Int} : (t.tmod c + c) % c = t % c := by
  rw [Int.add_emod_right]
  have h := Int.mul_tdiv_add_tmod t c
  have : t.tmod c = t + c * (-(t.tdiv c)) := by rw [Int.mul_neg]; omega
  rw [this, Int.add_mul_emod_self_left]
theorem tmod_bounds (t : Int) {c : Int} (hc : 0 < c) : -c < t.tmod c ∧ t.tmod c < c := by
  have h1 := Int.tmod_lt_of_pos t hc
  have h2 := Int.lt_tmod_of_pos t hc
  exact ⟨h2, h1⟩
end Go.Gt
namespace Go.Gt
theorem sumL_take_le {es : Ents} (h : es.all okE = true) (k : Nat) : 0 ≤ sumL (es.take k) ∧ sumL (es.take k) ≤ sumL es := by
  have e : sumL es = sumL (es.take k) + sumL (es.drop k) := by
    have : (es.take k ++ es.drop k) = es := List.take_append_drop k es
    conv => lhs; rw [← this]
    simp only [sumL, List.map_append, List.sum_append]
  have h1 : (es.take k).all okE = true := by
    rw [List.all_eq_true] at h ⊢
    exact fun x hx => h x (List.mem_of_mem_take hx)
  have h2 : (es.drop k).all okE = true := by
    rw [List.all_eq_true] at h ⊢
    exact fun x hx => h x (List.mem_of_mem_drop hx)
  have := sumL_bounds h1
  have := sumL_bounds h2
  omega
end Go.Gt
namespace Go.Gt
theorem sumL_zero (es : Ents) : sumL (es.take 0) = 0 := by simp [sumL]
end Go.Gt
namespace Go.Gt
theorem errG_zero {es : Ents} {cyc cl t lg : Int} (h : errG es cyc cl t lg = 0) : okG es cyc = true ∧ 0 ≤ cl ∧ cl ≤ 7 ∧ -1099511627776 ≤ t ∧ t ≤ 1099511627776 ∧ 0 ≤ lg ∧ lg ≤ 1099511627776 := by
  unfold errG at h
  split at h
  · rename_i hG
    split at h
    · rename_i hT
      exact ⟨hG, by simpa [okT] using hT⟩
    · cases h
  · cases h
end Go.Gt

/-
  What is known of gate lists in memory.
-/
namespace Go.Proofs.Gt
open Go Go.Eng Go.Gt
structure EntK (F : Know) (A : Option Addr) (n : Nat) (es : Ents) : Prop where
  len : n = es.length
  at_ : ∀ (i : Nat) (e : Int × Int), es[i]? = some e → ∃ a, A = some a ∧ F (a.add (i * 2)) = some (.int .i64 e.1) ∧ F (a.add (i * 2 + 1)) = some (.int .i64 e.2)
  rng : ∀ (i : Nat) (h : i < es.length), -9223372036854775808 ≤ es[i].1 ∧ es[i].1 ≤ 9223372036854775807 ∧ -9223372036854775808 ≤ es[i].2 ∧ es[i].2 ≤ 9223372036854775807
theorem EntK.some {F : Know} {A : Option Addr} {n : Nat} {es : Ents} (h : EntK F A n es) {i : Nat} (hi : i < es.length) : ∃ a, A = Option.some a := by
  obtain ⟨a, ha, _⟩ := h.at_ i es[i] (List.getElem?_eq_getElem hi)
  exact ⟨a, ha⟩
theorem EntK.cells {F : Know} {a : Addr} {n : Nat} {es : Ents} (h : EntK F (Option.some a) n es) {i : Nat} (hi : i < es.length) : ∀ j, j < 2 → F ((a.add (((i : Int)).toNat * 2)).add j) = [Value.int .i64 es[i].1, .int .i64 es[i].2][j]? := by
  intro j hj
  obtain ⟨b, hb, h1, h2⟩ := h.at_ i es[i] (List.getElem?_eq_getElem hi)
  cases hb
  rw [add_add, show ((i : Int)).toNat = i from by omega]
  match j, hj with
  | 0, _ => simpa using h1
  | 1, _ => simpa using h2
theorem EntK.mono {F F' : Know} {A : Option Addr} {n : Nat} {es : Ents} (h : EntK F A n es) (hF : ∀ a v, F a = Option.some v → F' a = Option.some v) : EntK F' A n es :=
  ⟨h.len, fun i e he => by obtain ⟨a, h1, h2, h3⟩ := h.at_ i e he; exact ⟨a, h1, hF _ _ h2, hF _ _ h3⟩, h.rng⟩
end Go.Proofs.Gt

/-
  Gate lists in plain mathematics, part 2: walking from entry to entry.
-/
namespace Go.Gt
open Go Go.Eng
def firstN (p : Nat → Bool) : Nat → Nat → Option Nat
  | _, 0 => none
  | i, f + 1 => if p i then some i else firstN p (i + 1) f
theorem firstN_none {p : Nat → Bool} : ∀ {f i : Nat}, firstN p i f = none ↔ ∀ j, i ≤ j → j < i + f → p j = false
  | 0, i => by simp [firstN]; omega
  | f + 1, i => by
    unfold firstN
    cases h : p i with
    | true => simp; exact ⟨i, Nat.le_refl _, by omega, h⟩
    | false =>
      simp only [Bool.false_eq_true, if_false]
      rw [firstN_none]
      constructor
      · intro h' j h1 h2
        by_cases e : j = i
        · rw [e]; exact h
        · exact h' j (by omega) (by omega)
      · intro h' j h1 h2
        exact h' j (by omega) (by omega)
theorem firstN_some {p : Nat → Bool} : ∀ {f i m : Nat}, firstN p i f = some m ↔ i ≤ m ∧ m < i + f ∧ p m = true ∧ ∀ j, i ≤ j → j < m → p j = false
  | 0, i, m => by simp [firstN]; omega
  | f + 1, i, m => by
    unfold firstN
    cases h : p i with
    | true =>
      simp only [if_true, Option.some.injEq]
      constructor
      · rintro rfl; exact ⟨Nat.le_refl _, by omega, h, fun j h1 h2 => by omega⟩
      · rintro ⟨h1, h2, h3, h4⟩
        rcases Nat.lt_or_ge i m with h5 | h5
        · have := h4 i (Nat.le_refl _) h5; rw [h] at this; cases this
        · omega
    | false =>
      simp only [Bool.false_eq_true, if_false]
      rw [firstN_some]
      constructor
      · rintro ⟨h1, h2, h3, h4⟩
        refine ⟨by omega, by omega, h3, fun j h5 h6 => ?_⟩
        by_cases e : j = i
        · rw [e]; exact h
        · exact h4 j (by omega) h6
      · rintro ⟨h1, h2, h3, h4⟩
        have : i ≠ m := fun e => by rw [e] at h; rw [h] at h3; cases h3
        exact ⟨by omega, by omega, h3, fun j h5 h6 => h4 j (by omega) h6⟩
theorem firstN_of {p : Nat → Bool} {n m : Nat} (h1 : m < n) (h2 : p m = true) (h3 : ∀ j, j < m → p j = false) : firstN p 0 n = some m :=
  firstN_some.2 ⟨Nat.zero_le _, by omega, h2, fun j _ h => h3 j h⟩
theorem firstN_no {p : Nat → Bool} {n : Nat} (h : ∀ j, j < n → p j = false) : firstN p 0 n = none :=
  firstN_none.2 fun j _ h' => h j (by omega)
def bitE (m c : Int) : Bool := m / 2 ^ c.toNat % 2 == 1
def ent (es : Ents) (k i : Nat) : Int × Int := es.getD ((k + i) % es.length) (0, 0)
def rs (es : Ents) (k : Nat) : Nat → Int
  | 0 => 0
  | i + 1 => rs es k i + (ent es k i).2
theorem ent_get {es : Ents} (k i : Nat) (h : 0 < es.length) : ent es k i = es[(k + i) % es.length]'(Nat.mod_lt _ h) := by
  simp [ent, Nat.mod_lt _ h]
theorem ent_ok {es : Ents} (ha : es.all okE = true) (h : 0 < es.length) (k i : Nat) : 0 ≤ (ent es k i).1 ∧ (ent es k i).1 ≤ 255 ∧ 1 ≤ (ent es k i).2 ∧ (ent es k i).2 ≤ 9600000 := by
  rw [ent_get k i h]; exact okE_get ha _
theorem rs_bounds {es : Ents} (ha : es.all okE = true) (h : 0 < es.length) (k i : Nat) : (i : Int) ≤ rs es k i ∧ rs es k i ≤ 9600000 * i := by
  induction i with
  | zero => simp [rs]
  | succ i ih => have := ent_ok ha h k i; simp only [rs]; omega
theorem rs_mono {es : Ents} (ha : es.all okE = true) (h : 0 < es.length) (k : Nat) {i j : Nat} (hij : i ≤ j) : rs es k i ≤ rs es k j := by
  induction j with
  | zero => have : i = 0 := by omega
            subst this; exact Int.le_refl _
  | succ j ih =>
    by_cases e : i = j + 1
    · subst e; exact Int.le_refl _
    · have := ih (by omega); have := ent_ok ha h k j; simp only [rs]; omega
abbrev big : Int := 1099511627776
def loc (es : Ents) (cyc t : Int) : Nat × Int := locate es (t % cyc)
def stateE (es : Ents) (cyc t : Int) : Int := (es.getD (loc es cyc t).1 (0, 0)).1
def spanE (es : Ents) (cyc cl t : Int) : Int :=
  match firstN (fun i => !bitE (ent es (loc es cyc t).1 i).1 cl) 0 es.length with
  | none => big
  | some 0 => 0
  | some (i + 1) => rs es (loc es cyc t).1 (i + 1) - (loc es cyc t).2
def beg (es : Ents) (cyc t : Int) (i : Nat) : Int := t - (loc es cyc t).2 + rs es (loc es cyc t).1 i
def fitE (es : Ents) (cyc cl t lg : Int) : Option Int :=
  if lg ≤ spanE es cyc cl t then some t
  else match firstN (fun i => decide (lg ≤ spanE es cyc cl (beg es cyc t (i + 1)))) 0 es.length with
    | none => none
    | some i => some (beg es cyc t (i + 1))
def turnE (es : Ents) (cyc t : Int) : Option Int :=
  match firstN (fun i => (ent es (loc es cyc t).1 i).1 != (ent es (loc es cyc t).1 0).1) 0 es.length with
  | none => none
  | some i => some (beg es cyc t i)
theorem loc_spec {es : Ents} {cyc : Int} (hG : okG es cyc = true) (t : Int) : ∃ h : (loc es cyc t).1 < es.length, 0 ≤ (loc es cyc t).2 ∧ (loc es cyc t).2 < (es[(loc es cyc t).1]).2 ∧ t % cyc = sumL (es.take (loc es cyc t).1) + (loc es cyc t).2 := by
  obtain ⟨_, _, _, hs, _, hc⟩ := okG_parts hG
  exact locate_spec es (t % cyc) (Int.emod_nonneg _ (by omega)) (by rw [hs]; exact Int.emod_lt_of_pos _ (by omega))
theorem loc_bounds {es : Ents} {cyc : Int} (hG : okG es cyc = true) (t : Int) : 0 ≤ (loc es cyc t).2 ∧ (loc es cyc t).2 < 9600000 := by
  obtain ⟨h, h1, h2, _⟩ := loc_spec hG t
  have := okE_get (okG_parts hG).2.2.1 h
  omega
theorem ent_zero {es : Ents} {cyc : Int} (hG : okG es cyc = true) (t : Int) : ent es (loc es cyc t).1 0 = es.getD (loc es cyc t).1 (0, 0) := by
  obtain ⟨h, _⟩ := loc_spec hG t
  simp only [ent, Nat.add_zero]
  rw [Nat.mod_eq_of_lt h]
theorem spanE_bounds {es : Ents} {cyc : Int} (hG : okG es cyc = true) (cl t : Int) : 0 ≤ spanE es cyc cl t ∧ spanE es cyc cl t ≤ big := by
  obtain ⟨h1, h2, ha, _⟩ := okG_parts hG
  unfold spanE
  split
  · decide
  · decide
  · rename_i i hi
    obtain ⟨_, h4, _⟩ := firstN_some.1 hi
    have h5 := rs_bounds ha h1 (loc es cyc t).1 (i + 1)
    have h6 := loc_bounds hG t
    obtain ⟨h, h7, h8, _⟩ := loc_spec hG t
    have h9 := rs_mono ha h1 (loc es cyc t).1 (i := 1) (j := i + 1) (by omega)
    have h10 : rs es (loc es cyc t).1 1 = (ent es (loc es cyc t).1 0).2 := by simp [rs]
    have h11 : ent es (loc es cyc t).1 0 = es[(loc es cyc t).1] := by rw [ent_zero hG]; simp [h]
    rw [h11] at h10
    unfold big
    omega
end Go.Gt

/-
  Gate lists in plain mathematics, part 3: where the entries that follow begin.
-/
namespace Go.Gt
open Go Go.Eng
theorem wrap_prefix {es : Ents} {k : Nat} (hk : k < es.length) : ∀ i, i ≤ es.length → sumL (es.take k) + rs es k i = sumL (es.take ((k + i) % es.length)) + (if es.length ≤ k + i then sumL es else 0) := by
  intro i
  induction i with
  | zero =>
    intro _
    rw [Nat.add_zero, Nat.mod_eq_of_lt hk, if_neg (by omega)]
    simp [rs]
  | succ i ih =>
    intro hi
    have h1 := ih (by omega)
    have hpos : 0 < es.length := by omega
    have hm := Nat.mod_lt (k + i) hpos
    simp only [rs]
    rw [← Int.add_assoc, h1, ent_get k i hpos]
    by_cases hw : es.length ≤ k + i
    · -- past the end already
      have e1 : (k + i) % es.length = k + i - es.length := by rw [Nat.mod_eq_sub_mod hw, Nat.mod_eq_of_lt (by omega)]
      have e2 : (k + (i + 1)) % es.length = k + i - es.length + 1 := by rw [Nat.mod_eq_sub_mod (by omega), Nat.mod_eq_of_lt (by omega)]; omega
      rw [if_pos hw, if_pos (by omega), e2]
      have := sumL_take_succ es (k + i - es.length) (by omega)
      simp only [e1] at hm ⊢
      omega
    · have e1 : (k + i) % es.length = k + i := Nat.mod_eq_of_lt (by omega)
      have h2 := sumL_take_succ es (k + i) (by omega)
      simp only [e1]
      rw [if_neg hw]
      by_cases hn : k + i + 1 = es.length
      · have e2 : (k + (i + 1)) % es.length = 0 := by rw [show k + (i + 1) = es.length by omega]; exact Nat.mod_self _
        rw [e2, if_pos (by omega), sumL_zero]
        rw [hn, List.take_length] at h2
        omega
      · have e2 : (k + (i + 1)) % es.length = k + i + 1 := Nat.mod_eq_of_lt (by omega)
        rw [e2, if_neg (by omega)]
        omega
theorem locate_prefix {es : Ents} (ha : es.all okE = true) {m : Nat} (hm : m < es.length) : locate es (sumL (es.take m)) = (m, 0) := by
  have h := locate_of (es := es) (x := sumL (es.take m)) hm (fun j hj hjm => by
    have h1 := sumL_take_succ es j hj
    have h2 : sumL (es.take (j + 1)) ≤ sumL (es.take m) := by
      have : es.take (j + 1) = (es.take m).take (j + 1) := by rw [List.take_take, Nat.min_eq_left (by omega)]
      rw [this]
      exact (sumL_take_le (es := es.take m) (by rw [List.all_eq_true] at ha ⊢; exact fun x hx => ha x (List.mem_of_mem_take hx)) (j + 1)).2
    omega) (by have := okE_get ha hm; omega)
  rw [h]; simp
theorem beg_mod {es : Ents} {cyc : Int} (hG : okG es cyc = true) (t : Int) {i : Nat} (hi : i ≤ es.length) : beg es cyc t i % cyc = sumL (es.take (((loc es cyc t).1 + i) % es.length)) := by
  obtain ⟨h1, h2, ha, hs, _, hc⟩ := okG_parts hG
  obtain ⟨h, h3, h4, h5⟩ := loc_spec hG t
  have hw := wrap_prefix h i hi
  have hpos : 0 < es.length := by omega
  have hm := Nat.mod_lt ((loc es cyc t).1 + i) hpos
  have hlt : sumL (es.take (((loc es cyc t).1 + i) % es.length)) < cyc := by
    have := sumL_take_succ es _ hm
    have := (sumL_take_le ha ((((loc es cyc t).1 + i) % es.length) + 1)).2
    have := okE_get ha hm
    omega
  have h0 := (sumL_take_le ha (((loc es cyc t).1 + i) % es.length)).1
  have hq := Int.mul_ediv_add_emod t cyc
  have e : beg es cyc t i = sumL (es.take (((loc es cyc t).1 + i) % es.length)) + cyc * (t / cyc + if es.length ≤ (loc es cyc t).1 + i then 1 else 0) := by
    unfold beg
    rw [Int.mul_add]
    split at hw <;> rename_i hh <;> simp only [hh, if_true, if_false, Int.mul_one, Int.mul_zero] <;> omega
  rw [e, Int.add_mul_emod_self_left, Int.emod_eq_of_lt h0 hlt]
theorem loc_beg {es : Ents} {cyc : Int} (hG : okG es cyc = true) (t : Int) {i : Nat} (hi : i ≤ es.length) : loc es cyc (beg es cyc t i) = (((loc es cyc t).1 + i) % es.length, 0) := by
  obtain ⟨h1, h2, ha, hs, _, hc⟩ := okG_parts hG
  rw [loc, beg_mod hG t hi]
  exact locate_prefix ha (Nat.mod_lt _ h1)
theorem state_beg {es : Ents} {cyc : Int} (hG : okG es cyc = true) (t : Int) {i : Nat} (hi : i ≤ es.length) : stateE es cyc (beg es cyc t i) = (ent es (loc es cyc t).1 i).1 := by
  rw [stateE, loc_beg hG t hi]; rfl
theorem ent_full (es : Ents) (k : Nat) : ent es k es.length = ent es k 0 := by
  simp [ent]
end Go.Gt

/-
  Gate lists in plain mathematics, part 4: bits, and what the searches find.
-/
namespace Go.Gt
open Go Go.Eng
theorem bitE_and {m k : Int} (hm : 0 ≤ m ∧ m ≤ 255) (hk : 0 ≤ k ∧ k ≤ 7) : bitsOf .and .i64 (m.fdiv (2 ^ (min k.toNat 64))) 1 = 0 ↔ bitE m k = false := by
  have h0 : 0 ≤ m / 2 ^ k.toNat := Int.ediv_nonneg hm.1 (Int.le_of_lt (Int.pow_pos (by decide)))
  have h1 : m / 2 ^ k.toNat ≤ m := Int.ediv_le_self _ hm.1
  rw [bit_shift ⟨hk.1, by omega⟩, and1 ⟨h0, by omega⟩]
  unfold bitE
  rw [beq_eq_false_iff_ne]
  omega
def fst0 (es : Ents) (cyc t : Int) (i : Nat) : Int := if i = 0 then t else beg es cyc t i
theorem fst0_succ (es : Ents) (cyc t : Int) (i : Nat) : fst0 es cyc t (i + 1) = beg es cyc t (i + 1) := by simp [fst0]
theorem beg_succ (es : Ents) (cyc t : Int) (i : Nat) : beg es cyc t (i + 1) = beg es cyc t i + (ent es (loc es cyc t).1 i).2 := by simp only [beg, rs]; omega
theorem spanE_all {es : Ents} {cyc cl t : Int} (h : ∀ j, j < es.length → bitE (ent es (loc es cyc t).1 j).1 cl = true) : spanE es cyc cl t = big := by
  unfold spanE
  rw [firstN_no fun j hj => by rw [h j hj]; rfl]
theorem spanE_at {es : Ents} {cyc cl t : Int} {i : Nat} (hi : i < es.length) (h : ∀ j, j < i → bitE (ent es (loc es cyc t).1 j).1 cl = true) (h1 : bitE (ent es (loc es cyc t).1 i).1 cl = false) : spanE es cyc cl t = fst0 es cyc t i - t := by
  unfold spanE
  rw [firstN_of (m := i) hi (by rw [h1]; rfl) fun j hj => by rw [h j hj]; rfl]
  cases i with
  | zero => simp [fst0]
  | succ i => rw [fst0_succ]; simp only [beg]; omega
theorem fitE_now {es : Ents} {cyc cl t lg : Int} (h : lg ≤ spanE es cyc cl t) : fitE es cyc cl t lg = some t := by rw [fitE, if_pos h]
theorem fitE_none {es : Ents} {cyc cl t lg : Int} (h : ¬ lg ≤ spanE es cyc cl t) (h1 : ∀ j, j < es.length → ¬ lg ≤ spanE es cyc cl (beg es cyc t (j + 1))) : fitE es cyc cl t lg = none := by
  rw [fitE, if_neg h, firstN_no fun j hj => by simpa using h1 j hj]
theorem fitE_at {es : Ents} {cyc cl t lg : Int} {i : Nat} (hi : i < es.length) (h : ¬ lg ≤ spanE es cyc cl t) (h1 : ∀ j, j < i → ¬ lg ≤ spanE es cyc cl (beg es cyc t (j + 1))) (h2 : lg ≤ spanE es cyc cl (beg es cyc t (i + 1))) : fitE es cyc cl t lg = some (beg es cyc t (i + 1)) := by
  rw [fitE, if_neg h, firstN_of (m := i) hi (by simpa using h2) fun j hj => by simpa using h1 j hj]
def maskA (es : Ents) (cyc t : Int) : Int × Int := if errG es cyc 0 t 0 = 0 then (stateE es cyc t, 0) else (0, errG es cyc 0 t 0)
def openA (es : Ents) (cyc cl t : Int) : Int × Int := if errG es cyc cl t 0 = 0 then (spanE es cyc cl t, 0) else (0, errG es cyc cl t 0)
def fitsA (es : Ents) (cyc cl t lg : Int) : Bool × Int := if errG es cyc cl t lg = 0 then (decide (lg ≤ spanE es cyc cl t), 0) else (false, errG es cyc cl t lg)
def orErr : Option Int → Int × Int
  | some x => (x, 0)
  | none => (0, 4)
def fitA (es : Ents) (cyc cl t lg : Int) : Int × Int := if errG es cyc cl t lg = 0 then orErr (fitE es cyc cl t lg) else (0, errG es cyc cl t lg)
def turnA (es : Ents) (cyc t : Int) : Int × Int := if errG es cyc 0 t 0 = 0 then orErr (turnE es cyc t) else (0, errG es cyc 0 t 0)
def maskH (es : Ents) (cyc t : Int) : Int := if (maskA es cyc t).2 ≠ 0 then -1 else (maskA es cyc t).1
def openH (es : Ents) (cyc cl t : Int) : Int := if (openA es cyc cl t).2 ≠ 0 then -1 else (openA es cyc cl t).1
def fitsH (es : Ents) (cyc cl t lg : Int) : Bool := (fitsA es cyc cl t lg).1 && (fitsA es cyc cl t lg).2 == 0
def fitH (es : Ents) (cyc cl t lg : Int) : Int := if (fitA es cyc cl t lg).2 ≠ 0 then -1 else (fitA es cyc cl t lg).1
end Go.Gt

/-
  Frames, parts and queues: what the layer computes, in plain terms.
-/
namespace Go.Qu
open Go Go.Eng
structure It where
  st : Int
  sq : Int
  cl : Int
  sz : Int
  sn : Int
structure Pt where
  it : It
  left : Int
  rest : Bool
def itv (x : It) : List Value := [.int .i64 x.st, .int .i64 x.sq, .int .i64 x.cl, .int .i64 x.sz, .int .i64 x.sn]
def ptv (p : Pt) : List Value := [.int .i64 p.it.st, .int .i64 p.it.sq, .int .i64 p.it.cl, .int .i64 p.it.sz, .int .i64 p.it.sn, .int .i64 p.left, .bool p.rest]
theorem ptv_len (p : Pt) : (ptv p).length = 7 := rfl
theorem itv_len (p : It) : (itv p).length = 5 := rfl
abbrev PK (F : Know) (A : Option Addr) (n : Nat) (ps : List Pt) : Prop := RowsK ptv 7 F A n ps
def rI (x : Int) : Prop := -9223372036854775808 ≤ x ∧ x ≤ 9223372036854775807
def It.rng (x : It) : Prop := rI x.st ∧ rI x.sq ∧ rI x.cl ∧ rI x.sz ∧ rI x.sn
def Pt.rng (p : Pt) : Prop := p.it.rng ∧ rI p.left
def okI (x : It) : Bool := decide (0 ≤ x.st ∧ x.st ≤ 1099511627776 ∧ 0 ≤ x.sq ∧ x.sq ≤ 1099511627776 ∧ 0 ≤ x.sn ∧ x.sn ≤ 1099511627776 ∧ 0 ≤ x.cl ∧ x.cl ≤ 7 ∧ 84 ≤ x.sz ∧ x.sz ≤ 1542)
def okP (p : Pt) : Bool := okI p.it && (if p.rest then decide (p.it.cl ≤ 5 ∧ 88 ≤ p.left ∧ p.left ≤ p.it.sz - 40) else decide (p.left = p.it.sz))
def whole (x : It) : Pt := ⟨x, x.sz, false⟩
def dIt : It := ⟨0, 0, 0, 0, 0⟩
def dPt : Pt := ⟨dIt, 0, false⟩
def atP (ps : List Pt) (k : Nat) : Pt := ps.getD k dPt
theorem atP_get {ps : List Pt} {k : Nat} (h : k < ps.length) : atP ps k = ps[k] := by simp [atP, h]
def okAt (i : Nat) (p : Pt) : Bool := okP p && (decide (i = 0) || !p.rest)
def validF : Nat → List Pt → Bool
  | _, [] => true
  | i, p :: r => okAt i p && validF (i + 1) r
def validP (ps : List Pt) : Bool := validF 0 ps
theorem validF_iff : ∀ (ps : List Pt) (i : Nat), validF i ps = true ↔ ∀ k, k < ps.length → okAt (i + k) (atP ps k) = true
  | [], i => by simp [validF]
  | p :: r, i => by
    simp only [validF, Bool.and_eq_true, validF_iff r (i + 1)]
    constructor
    · rintro ⟨h1, h2⟩ k hk
      cases k with
      | zero => exact h1
      | succ k => have := h2 k (by simpa using hk); rw [show i + (k + 1) = i + 1 + k by omega]; simpa [atP] using this
    · intro h
      refine ⟨h 0 (by simp), fun k hk => ?_⟩
      have := h (k + 1) (by simpa using hk)
      rw [show i + 1 + k = i + (k + 1) by omega]; simpa [atP] using this
theorem validP_iff {ps : List Pt} : validP ps = true ↔ ∀ k, k < ps.length → okAt k (atP ps k) = true := by
  rw [validP, validF_iff]; simp
theorem validP_false {ps : List Pt} {k : Nat} (hk : k < ps.length) (h : okAt k (atP ps k) = false) : validP ps = false := by
  cases e : validP ps with
  | false => rfl
  | true => rw [validP_iff.1 e k hk] at h; cases h
theorem okP_bd {p : Pt} (h : okP p = true) : 84 ≤ p.left ∧ p.left ≤ 1542 := by
  unfold okP okI at h
  cases hr : p.rest <;> simp [hr] at h <;> omega
theorem okP_it {p : Pt} (h : okP p = true) : okI p.it = true := by
  unfold okP at h; simp at h; exact h.1
theorem valid_bd {ps : List Pt} (h : validP ps = true) {k : Nat} (hk : k < ps.length) : okP (atP ps k) = true := by
  have := validP_iff.1 h k hk
  unfold okAt at this; simp at this; exact this.1
theorem valid_mem {ps : List Pt} (h : validP ps = true) {p : Pt} (hp : p ∈ ps) : okP p = true := by
  obtain ⟨i, hi, rfl⟩ := List.getElem_of_mem hp
  have := valid_bd h hi
  rwa [atP_get hi] at this
def octs (ps : List Pt) : Int := (ps.map (·.left)).sum
def octK (ps : List Pt) (k : Nat) : Int := octs (ps.take k)
theorem octK_zero (ps : List Pt) : octK ps 0 = 0 := by simp [octK, octs]
theorem octK_all (ps : List Pt) : octK ps ps.length = octs ps := by simp [octK]
theorem octK_succ {ps : List Pt} {k : Nat} (h : k < ps.length) : octK ps (k + 1) = octK ps k + (atP ps k).left := by
  unfold octK octs
  rw [List.take_add_one, List.map_append, List.sum_append, atP_get h]
  simp [h]
theorem octK_bd {ps : List Pt} (h : ∀ k, k < ps.length → 0 ≤ (atP ps k).left ∧ (atP ps k).left ≤ 65536) : ∀ k, k ≤ ps.length → 0 ≤ octK ps k ∧ octK ps k ≤ 65536 * (k : Int)
  | 0, _ => by simp [octK_zero]
  | k + 1, hk => by
    have := octK_bd h k (by omega)
    have h2 := h k (by omega)
    rw [octK_succ (by omega)]
    omega
def restQ (ps : List Pt) : Bool := decide (0 < ps.length) && (atP ps 0).rest
def fullO (ps : List Pt) : Int := octs ps - (if restQ ps then (atP ps 0).left else 0)
def rightQ (cap : Int) (ps : List Pt) : Bool := decide (0 ≤ cap ∧ cap ≤ 65536) && validP ps && decide (fullO ps ≤ cap)
theorem octs_bd {ps : List Pt} (h : validP ps = true) : 0 ≤ octs ps ∧ octs ps ≤ 65536 * (ps.length : Int) := by
  rw [← octK_all]
  exact octK_bd (fun k hk => by have := okP_bd (valid_bd h hk); omega) _ (Nat.le_refl _)
theorem head_bd {ps : List Pt} (h : validP ps = true) (h0 : 0 < ps.length) : 84 ≤ (atP ps 0).left ∧ (atP ps 0).left ≤ 1542 := okP_bd (valid_bd h h0)
def yldP (ps : List Pt) : List (List Value) := ps.mapIdx fun i p => [.int .i64 i, .agg (ptv p).toArray]
theorem yldP_len (ps : List Pt) : (yldP ps).length = ps.length := by simp [yldP]
theorem yldP_get {ps : List Pt} {k : Nat} (hk : k < (yldP ps).length) : (yldP ps)[k] = [.int .i64 k, .agg (ptv (atP ps k)).toArray] := by
  have : k < ps.length := by rwa [yldP_len] at hk
  simp [yldP, atP_get this]
def eqI (a b : It) : Bool := (a.st == b.st) && (a.sq == b.sq) && (a.cl == b.cl) && (a.sz == b.sz) && (a.sn == b.sn)
end Go.Qu
namespace Go.Qu
open Go Go.Eng
def QV (F : Know) (v : Value) (cap : Int) (ps : List Pt) : Prop := ∃ A n c, v = .agg [.int .i64 cap, .slice A n c].toArray ∧ n ≤ c ∧ c ≤ maxLen ∧ PK F A n ps
theorem QV.mk {F : Know} {A : Option Addr} {n c : Nat} {cap : Int} {ps : List Pt} (h : PK F A n ps) (h1 : n ≤ c) (h2 : c ≤ maxLen) : QV F (.agg [.int .i64 cap, .slice A n c].toArray) cap ps := ⟨A, n, c, rfl, h1, h2, h⟩
theorem QV.nil {F : Know} {cap : Int} : QV F (.agg [.int .i64 cap, .slice none 0 0].toArray) cap [] := ⟨none, 0, 0, rfl, Nat.le_refl _, Nat.zero_le _, RowsK.nil⟩
theorem QV.mono {F F' : Know} {v : Value} {cap : Int} {ps : List Pt} (h : QV F v cap ps) (hF : ∀ a u, F a = some u → F' a = some u) : QV F' v cap ps := by
  obtain ⟨A, n, c, h1, h2, h3, h4⟩ := h; exact ⟨A, n, c, h1, h2, h3, h4.mono hF⟩
def pushQ (cap : Int) (ps : List Pt) (x : It) : (Int × List Pt) × Bool × Int :=
  if rightQ cap ps = false then ((0, []), false, 461) else if okI x = false then ((0, []), false, 460) else if octs ps + x.sz > cap then ((cap, ps), false, 0) else ((cap, ps ++ [whole x]), true, 0)
def popQ (cap : Int) (ps : List Pt) : (Int × List Pt) × Pt × Int :=
  if rightQ cap ps = false then ((0, []), dPt, 461) else if ps.length = 0 then ((0, []), dPt, 4) else ((cap, ps.drop 1), atP ps 0, 0)
def retQ (cap : Int) (ps : List Pt) (x : Pt) : (Int × List Pt) × Int :=
  if rightQ cap ps = false then ((0, []), 461) else if okP x = false then ((0, []), 460) else if x.rest = false ∨ restQ ps = true then ((0, []), 2) else ((cap, x :: ps), 0)
def headQ (cap : Int) (ps : List Pt) : Pt × Bool := if rightQ cap ps = true ∧ ps.length ≠ 0 then (atP ps 0, true) else (dPt, false)
theorem SlO.qv {F' : Know} {e : TypeId} {v : Value} {n : Nat} {ps : List Pt} {b : Own} (h : SlO e 7 v n (rowsV ptv ps) b) (hF : ∀ p cs t fr k, (p, Obj.cells cs t fr) ∈ b → ∀ u, cs[k]? = some u → F' ⟨p, k, none⟩ = some u) {A : Option Addr} {c : Nat} (hv : v = .slice A n c) {cap : Int} : QV F' (.agg [.int .i64 cap, .slice A n c].toArray) cap ps := by
  obtain ⟨A', c', h1, h2, h3, h4⟩ := h.rows ptv_len (by decide) hF
  rw [hv] at h1; cases h1
  exact QV.mk h4 h2 h3
end Go.Qu
namespace Go.Qu
open Go Go.Eng
theorem rowsV_one_cell (ps : List Pt) : ∀ u ∈ rowsV ptv ps, u.oneCell' = true := by
  intro u hu
  obtain ⟨p, _, h⟩ := List.mem_flatMap.1 hu
  simp only [ptv, List.mem_cons, List.not_mem_nil, or_false] at h
  rcases h with rfl | rfl | rfl | rfl | rfl | rfl | rfl <;> rfl
end Go.Qu
namespace Go.Qu
open Go Go.Eng
def fullK (ps : List Pt) (k : Nat) : Int := (((ps.take k).filter (fun p => !p.rest)).map (·.left)).sum
end Go.Qu
namespace Go.Qu
open Go Go.Eng
def eqP (a b : Pt) : Bool := ((a.it.st == b.it.st) && ((a.it.sq == b.it.sq) && ((a.it.cl == b.it.cl) && ((a.it.sz == b.it.sz) && (a.it.sn == b.it.sn))))) && ((a.left == b.left) && (a.rest == b.rest))
theorem eqP_iff {a b : Pt} : eqP a b = true ↔ a = b := by
  constructor
  · intro h
    obtain ⟨⟨a1, a2, a3, a4, a5⟩, a6, a7⟩ := a
    obtain ⟨⟨b1, b2, b3, b4, b5⟩, b6, b7⟩ := b
    simp [eqP] at h
    simp [h]
  · rintro rfl; simp [eqP]
instance : DecidableEq Pt := fun a b => decidable_of_iff _ eqP_iff
end Go.Qu
namespace Go.Qu
open Go Go.Eng
end Go.Qu
namespace Go.Qu
open Go Go.Eng
variable {cap : Int} {ps : List Pt}
end Go.Qu

/-
  Gate lists in plain mathematics, part 6: tick by tick.
-/
namespace Go.Gt
open Go Go.Eng
theorem locate_in {es : Ents} (ha : es.all okE = true) {m : Nat} (hm : m < es.length) {d : Int} (h0 : 0 ≤ d) (h1 : d < (es[m]).2) : locate es (sumL (es.take m) + d) = (m, d) := by
  have h := locate_of (es := es) (x := sumL (es.take m) + d) hm (fun j hj hjm => by
    have h1 := sumL_take_succ es j hj
    have h2 : sumL (es.take (j + 1)) ≤ sumL (es.take m) := by
      have : es.take (j + 1) = (es.take m).take (j + 1) := by rw [List.take_take, Nat.min_eq_left (by omega)]
      rw [this]
      exact (sumL_take_le (es := es.take m) (by rw [List.all_eq_true] at ha ⊢; exact fun x hx => ha x (List.mem_of_mem_take hx)) (j + 1)).2
    omega) (by omega)
  rw [h]
  simp only [Prod.mk.injEq]
  exact ⟨trivial, by omega⟩
variable {es : Ents} {cyc : Int}
theorem loc_in (hG : okG es cyc = true) (t : Int) {i : Nat} (hi : i ≤ es.length) {d : Int} (h0 : 0 ≤ d) (h1 : d < (ent es (loc es cyc t).1 i).2) : loc es cyc (beg es cyc t i + d) = (((loc es cyc t).1 + i) % es.length, d) := by
  obtain ⟨hl, _, ha, hs, _, hc⟩ := okG_parts hG
  have hm := Nat.mod_lt ((loc es cyc t).1 + i) hl
  have hb := beg_mod hG t hi
  rw [ent_get _ _ hl] at h1
  have h2 := sumL_take_succ es _ hm
  have h3 := (sumL_take_le ha ((((loc es cyc t).1 + i) % es.length) + 1)).2
  have h4 := (sumL_take_le ha (((loc es cyc t).1 + i) % es.length)).1
  have e : (beg es cyc t i + d) % cyc = sumL (es.take (((loc es cyc t).1 + i) % es.length)) + d := by
    rw [← Int.emod_add_emod, hb, Int.emod_eq_of_lt (by omega) (by omega)]
  rw [loc, e]
  exact locate_in ha hm h0 h1
theorem state_in (hG : okG es cyc = true) (t : Int) {i : Nat} (hi : i ≤ es.length) {d : Int} (h0 : 0 ≤ d) (h1 : d < (ent es (loc es cyc t).1 i).2) : stateE es cyc (beg es cyc t i + d) = (ent es (loc es cyc t).1 i).1 := by
  rw [stateE, loc_in hG t hi h0 h1]; rfl
theorem beg_full (hG : okG es cyc = true) (t : Int) : beg es cyc t es.length = t - (loc es cyc t).2 + cyc := by
  obtain ⟨h, h3, h4, h5⟩ := loc_spec hG t
  obtain ⟨_, _, _, hs, _, _⟩ := okG_parts hG
  have hw := wrap_prefix h es.length (Nat.le_refl _)
  rw [if_pos (by omega), Nat.add_mod_right, Nat.mod_eq_of_lt h, hs] at hw
  unfold beg; omega
theorem beg_zero (t : Int) : beg es cyc t 0 = t - (loc es cyc t).2 := by simp [beg, rs]
theorem ent0_pos (hG : okG es cyc = true) (t : Int) : (loc es cyc t).2 < (ent es (loc es cyc t).1 0).2 := by
  obtain ⟨h, h3, h4, _⟩ := loc_spec hG t
  rw [ent_zero hG]; simpa [h] using h4
theorem beg_more (hG : okG es cyc = true) (t : Int) : t + cyc < beg es cyc t (es.length + 1) := by
  have h1 := beg_full hG t
  have h2 := beg_succ es cyc t es.length
  have h3 := ent0_pos hG t
  rw [ent_full] at h2
  omega
theorem beg_mono (hG : okG es cyc = true) (t : Int) {i j : Nat} (h : i ≤ j) : beg es cyc t i ≤ beg es cyc t j := by
  obtain ⟨h1, _, ha, _⟩ := okG_parts hG
  have := rs_mono ha h1 (loc es cyc t).1 h
  unfold beg; omega
theorem beg_one (hG : okG es cyc = true) (t : Int) : t < beg es cyc t 1 := by
  have h2 := beg_succ es cyc t 0
  have h3 := ent0_pos hG t
  rw [beg_zero] at h2
  rw [h2]; omega
theorem cover (hG : okG es cyc = true) (t : Int) {x : Int} (h0 : t ≤ x) : ∀ n, x < beg es cyc t n → ∃ i, i < n ∧ beg es cyc t i ≤ x ∧ x < beg es cyc t (i + 1)
  | 0, h => by rw [beg_zero] at h; have := loc_bounds hG t; omega
  | n + 1, h => by
    by_cases hx : x < beg es cyc t n
    · obtain ⟨i, h1, h2⟩ := cover hG t h0 n hx
      exact ⟨i, by omega, h2⟩
    · exact ⟨n, by omega, by omega, h⟩
theorem state_cover (hG : okG es cyc = true) (t : Int) {x : Int} {i : Nat} (hi : i ≤ es.length) (h1 : beg es cyc t i ≤ x) (h2 : x < beg es cyc t (i + 1)) : stateE es cyc x = (ent es (loc es cyc t).1 i).1 := by
  have h3 := beg_succ es cyc t i
  have := state_in hG t hi (d := x - beg es cyc t i) (by omega) (by omega)
  rwa [show beg es cyc t i + (x - beg es cyc t i) = x by omega] at this
theorem state_now (hG : okG es cyc = true) (t : Int) : stateE es cyc t = (ent es (loc es cyc t).1 0).1 :=
  state_cover hG t (Nat.zero_le _) (by rw [beg_zero]; have := loc_bounds hG t; omega) (beg_one hG t)
def isO (es : Ents) (cyc cl x : Int) : Bool := bitE (stateE es cyc x) cl
theorem span_cases (_hG : okG es cyc = true) (cl t : Int) : (spanE es cyc cl t = big ∧ ∀ j, j < es.length → bitE (ent es (loc es cyc t).1 j).1 cl = true) ∨
    ∃ i, i < es.length ∧ spanE es cyc cl t = fst0 es cyc t i - t ∧ bitE (ent es (loc es cyc t).1 i).1 cl = false ∧ ∀ j, j < i → bitE (ent es (loc es cyc t).1 j).1 cl = true := by
  cases h : firstN (fun i => !bitE (ent es (loc es cyc t).1 i).1 cl) 0 es.length with
  | none =>
    have hn := firstN_none.1 h
    have hall : ∀ j, j < es.length → bitE (ent es (loc es cyc t).1 j).1 cl = true := fun j hj => by simpa using hn j (Nat.zero_le _) (by omega)
    exact .inl ⟨spanE_all hall, hall⟩
  | some m =>
    obtain ⟨_, h2, h3, h4⟩ := firstN_some.1 h
    have hf : bitE (ent es (loc es cyc t).1 m).1 cl = false := by simpa using h3
    have hb : ∀ j, j < m → bitE (ent es (loc es cyc t).1 j).1 cl = true := fun j hj => by simpa using h4 j (Nat.zero_le _) hj
    exact .inr ⟨m, by omega, spanE_at (by omega) hb hf, hf, hb⟩
theorem span_in (hG : okG es cyc = true) (cl t : Int) {j : Int} (h0 : 0 ≤ j) (h1 : j < spanE es cyc cl t) (h2 : j < cyc) : isO es cyc cl (t + j) = true := by
  have hm := beg_more hG t
  obtain ⟨i, hi, h3, h4⟩ := cover hG t (x := t + j) (by omega) (es.length + 1) (by omega)
  rw [isO, state_cover hG t (by omega) h3 h4]
  rcases span_cases hG cl t with ⟨_, hall⟩ | ⟨m, hm, hs, _, hall⟩
  · by_cases e : i = es.length
    · rw [e, ent_full]; exact hall 0 (okG_parts hG).1
    · exact hall i (by omega)
  · refine hall i ?_
    rcases Nat.lt_or_ge i m with h | h
    · exact h
    · exfalso
      have := beg_mono hG t h
      unfold fst0 at hs
      split at hs <;> omega
theorem span_end (hG : okG es cyc = true) (cl t : Int) (h : spanE es cyc cl t < big) : spanE es cyc cl t < cyc ∧ isO es cyc cl (t + spanE es cyc cl t) = false := by
  obtain ⟨hl, _, ha, _, _, hc⟩ := okG_parts hG
  rcases span_cases hG cl t with ⟨hs, _⟩ | ⟨m, hm, hs, hf, _⟩
  · omega
  · have hy := loc_bounds hG t
    have hfull := beg_full hG t
    rw [hs, show t + (fst0 es cyc t m - t) = fst0 es cyc t m by omega]
    unfold fst0
    split
    · rename_i e
      subst e
      exact ⟨by omega, by rw [isO, state_now hG]; exact hf⟩
    · have h2 := beg_mono hG t (show m + 1 ≤ es.length by omega)
      have h3 := beg_succ es cyc t m
      have h4 := ent_ok ha hl (loc es cyc t).1 m
      refine ⟨by omega, ?_⟩
      rw [isO, state_beg hG t (by omega)]; exact hf
theorem span_is (hG : okG es cyc = true) (cl t : Int) {n : Int} (h0 : 0 ≤ n) (h1 : n < cyc) (h2 : ∀ j, 0 ≤ j → j < n → isO es cyc cl (t + j) = true) (h3 : isO es cyc cl (t + n) = false) : spanE es cyc cl t = n := by
  have hb := spanE_bounds hG cl t
  obtain ⟨_, _, _, _, hc9, _⟩ := okG_parts hG
  rcases Int.lt_trichotomy (spanE es cyc cl t) n with h | h | h
  · have := (span_end hG cl t (by unfold big; omega)).2
    rw [h2 _ hb.1 h] at this; cases this
  · exact h
  · have := span_in hG cl t h0 h h1
    rw [h3] at this; cases this
theorem span_later (hG : okG es cyc = true) (cl : Int) {a x : Int} (h0 : a ≤ x) (h : ∀ j, a ≤ j → j ≤ x → isO es cyc cl j = isO es cyc cl a) : spanE es cyc cl x ≤ spanE es cyc cl a := by
  obtain ⟨_, _, _, _, hc9, hc⟩ := okG_parts hG
  have hba := spanE_bounds hG cl a
  have hbx := spanE_bounds hG cl x
  cases hx : isO es cyc cl x with
  | false =>
    have := span_is hG cl x (Int.le_refl 0) (by omega) (fun j h1 h2 => by omega) (by rw [Int.add_zero]; exact hx)
    omega
  | true =>
    by_cases hs : spanE es cyc cl a < big
    · obtain ⟨h3, h4⟩ := span_end hG cl a hs
      have ha : isO es cyc cl a = true := by rw [← h x h0 (Int.le_refl _)]; exact hx
      have h5 : x - a < spanE es cyc cl a := by
        by_cases h5 : x - a < spanE es cyc cl a
        · exact h5
        · rw [h _ (by omega) (by omega), ha] at h4; cases h4
      have := span_is hG cl x (n := spanE es cyc cl a - (x - a)) (by omega) (by omega) (fun j g1 g2 => by
        rw [show x + j = a + ((x - a) + j) by omega]
        exact span_in hG cl a (by omega) (by omega) (by omega)) (by rw [show x + (spanE es cyc cl a - (x - a)) = a + spanE es cyc cl a by omega]; exact h4)
      omega
    · omega
theorem span_none (hG : okG es cyc = true) (cl t lg : Int) {m : Nat} (hm : m ≤ es.length) (h0 : ¬ lg ≤ spanE es cyc cl t) (h : ∀ j, j < m → ¬ lg ≤ spanE es cyc cl (beg es cyc t (j + 1))) {x : Int} (h1 : t ≤ x) (h2 : x < beg es cyc t (m + 1)) : ¬ lg ≤ spanE es cyc cl x := by
  obtain ⟨i, hi, h3, h4⟩ := cover hG t h1 (m + 1) h2
  obtain ⟨hl, _, ha, hs, _, hc⟩ := okG_parts hG
  have hx := state_cover hG t (by omega) h3 h4
  have hy := loc_bounds hG t
  cases i with
  | zero =>
    rw [beg_zero] at h3
    rw [Nat.zero_add] at h4
    have := span_later hG cl h1 fun j g1 g2 => by
      rw [isO, isO, state_cover hG t (i := 0) (by omega) (by rw [beg_zero]; omega) (show j < beg es cyc t 1 by omega), state_now hG]
    omega
  | succ i =>
    have := span_later hG cl h3 fun j g1 g2 => by
      rw [isO, isO, state_cover hG t (i := i + 1) (by omega) g1 (by omega), state_cover hG t (i := i + 1) (by omega) (Int.le_refl _) (by omega)]
    have := h i (by omega)
    omega
theorem fit_some (hG : okG es cyc = true) {cl t lg a : Int} (h : fitE es cyc cl t lg = some a) : t ≤ a ∧ a < t + 2 * cyc ∧ lg ≤ spanE es cyc cl a ∧ ∀ x, t ≤ x → x < a → ¬ lg ≤ spanE es cyc cl x := by
  obtain ⟨hl, _, ha, hs, _, hc⟩ := okG_parts hG
  unfold fitE at h
  split at h
  · rename_i h0
    cases h
    exact ⟨Int.le_refl _, by omega, h0, fun x g1 g2 => by omega⟩
  · rename_i h0
    split at h
    · cases h
    · rename_i i hi
      cases h
      obtain ⟨_, h2, h3, h4⟩ := firstN_some.1 hi
      have h5 := beg_mono hG t (show i + 1 ≤ es.length by omega)
      have h6 := beg_full hG t
      have h7 := beg_mono hG t (show 1 ≤ i + 1 by omega)
      have h8 := beg_one hG t
      have h9 := loc_bounds hG t
      exact ⟨by omega, by omega, by simpa using h3, fun x g1 g2 => span_none hG cl t lg (m := i) (by omega) h0 (fun j hj => by simpa using h4 j (Nat.zero_le _) hj) g1 g2⟩
end Go.Gt

/-
  Lists of entries that are being made.
-/
namespace Go.Proofs.Gt
open Go Go.Eng Go.Gt
def cellsE (es : Ents) : List Value := es.flatMap fun e => [.int .i64 e.1, .int .i64 e.2]
theorem cellsE_len (es : Ents) : (cellsE es).length = es.length * 2 := by
  induction es with
  | nil => rfl
  | cons e r ih => simp [cellsE] at ih ⊢; omega
theorem cellsE_get : ∀ (es : Ents) (i : Nat) (e : Int × Int), es[i]? = some e → (cellsE es)[i * 2]? = some (.int .i64 e.1) ∧ (cellsE es)[i * 2 + 1]? = some (.int .i64 e.2)
  | [], i, e, h => by simp at h
  | x :: r, 0, e, h => by simp at h; subst h; simp [cellsE]
  | x :: r, i + 1, e, h => by
    have := cellsE_get r i e (by simpa using h)
    have e1 : cellsE (x :: r) = .int .i64 x.1 :: .int .i64 x.2 :: cellsE r := rfl
    rw [e1, show (i + 1) * 2 = i * 2 + 1 + 1 by omega, show i * 2 + 1 + 1 + 1 = (i * 2 + 1) + 1 + 1 by omega]
    simpa using this
abbrev rngE (es : Ents) : Prop := ∀ (i : Nat) (h : i < es.length), -9223372036854775808 ≤ es[i].1 ∧ es[i].1 ≤ 9223372036854775807 ∧ -9223372036854775808 ≤ es[i].2 ∧ es[i].2 ≤ 9223372036854775807
theorem EntK.all {F : Know} {A : Option Addr} {n : Nat} {es : Ents} (h : EntK F A n es) : ∀ j u, (cellsE es)[j]? = Option.some u → ∃ a, A = Option.some a ∧ F (a.add j) = Option.some u := by
  intro j u hj
  have hl : j < es.length * 2 := by rw [← cellsE_len]; exact (List.getElem?_eq_some_iff.1 hj).1
  have hi : j / 2 < es.length := by omega
  obtain ⟨a, ha, h1, h2⟩ := h.at_ (j / 2) es[j / 2] (List.getElem?_eq_getElem hi)
  obtain ⟨h3, h4⟩ := cellsE_get es (j / 2) es[j / 2] (List.getElem?_eq_getElem hi)
  refine ⟨a, ha, ?_⟩
  by_cases e : j % 2 = 0
  · have : j = j / 2 * 2 := by omega
    rw [this] at hj ⊢
    rw [h3] at hj; rw [h1]; exact hj
  · have : j = j / 2 * 2 + 1 := by omega
    rw [this] at hj ⊢
    rw [h4] at hj; rw [h2]; exact hj
theorem entK_lit {es : Ents} {F' : Know} {p : Nat} (hr : rngE es) (hF : ∀ k u, (cellsE es)[k]? = some u → F' ⟨p, k, none⟩ = some u) : EntK F' (Option.some ⟨p, 0, none⟩) es.length es := by
  refine ⟨rfl, fun i e he => ⟨_, rfl, ?_, ?_⟩, hr⟩
  · obtain ⟨h4, _⟩ := cellsE_get es i e he
    have := hF _ _ h4
    have hadd : (⟨p, 0, none⟩ : Addr).add (i * 2) = ⟨p, i * 2, none⟩ := by unfold Addr.add; split <;> simp_all
    rw [hadd]; exact this
  · obtain ⟨_, h5⟩ := cellsE_get es i e he
    have := hF _ _ h5
    have hadd : (⟨p, 0, none⟩ : Addr).add (i * 2 + 1) = ⟨p, i * 2 + 1, none⟩ := by unfold Addr.add; split <;> simp_all
    rw [hadd]; exact this
theorem EntK.take {F : Know} {A : Option Addr} {n : Nat} {es : Ents} (h : EntK F A n es) (k : Nat) : EntK F A (min k n) (es.take k) := by
  refine ⟨by rw [List.length_take, ← h.len], fun i e he => h.at_ i e ?_, fun i hi => ?_⟩
  · rw [List.getElem?_take] at he
    split at he
    · exact he
    · cases he
  · rw [List.length_take] at hi
    simpa using h.rng i (by omega)
theorem EntK.nil (F : Know) : EntK F Option.none 0 [] := ⟨rfl, fun i e h => by simp at h, fun i h => by simp at h⟩
end Go.Proofs.Gt

/-
  Gate lists in plain mathematics, part 5: the lists that are made of bytes.
-/
namespace Go.Gt
open Go Go.Eng Go.Proofs.Gt
def draftN (ss : List Int) : Nat := max 1 (min ss.length 16)
def draftE (ss ls : List Int) : Ents := (List.range (draftN ss)).map fun i => (if i < ss.length then ss.getD i 0 else 127, if i < ls.length then 1 + ls.getD i 0 % 20 else 1)
abbrev bytesL (l : List Int) : Prop := ∀ (i : Nat) (h : i < l.length), 0 ≤ l[i] ∧ l[i] ≤ 255
end Go.Gt

/-
  Gate lists in plain mathematics, part 7: what the laws' helpers answer on a right list.
-/
namespace Go.Gt
open Go Go.Eng
variable {es : Ents} {cyc : Int}
end Go.Gt

/-
  Changes of gate lists, in plain terms.
-/
namespace Go.Sw
open Go Go.Eng Go.Gt Go.Proofs.Gt
structure Gl where
  A : Option Addr
  n : Nat
  cap : Nat
  es : Ents
  cyc : Int
def glv (g : Gl) : List Value := [.slice g.A g.n g.cap, .int .i64 g.cyc]
theorem glv_len (g : Gl) : (glv g).length = 2 := rfl
abbrev GlK (F : Know) (g : Gl) : Prop := EntK F g.A g.n g.es
def g0 : Gl := ⟨none, 0, 0, [], 0⟩
theorem g0_k (F : Know) : GlK F g0 := EntK.nil F
structure Ch where
  op : Gl
  base : Int
  pe : Bool
  ad : Gl
  wh : Int
def chv (c : Ch) : List Value := [.slice c.op.A c.op.n c.op.cap, .int .i64 c.op.cyc, .int .i64 c.base, .bool c.pe, .slice c.ad.A c.ad.n c.ad.cap, .int .i64 c.ad.cyc, .int .i64 c.wh]
structure ChK (F : Know) (c : Ch) : Prop where
  op : GlK F c.op
  ad : GlK F c.ad
theorem ChK.mono {F F' : Know} {c : Ch} (h : ChK F c) (hF : ∀ a v, F a = some v → F' a = some v) : ChK F' c := ⟨h.op.mono hF, h.ad.mono hF⟩
def c0 : Ch := ⟨g0, 0, false, g0, 0⟩
def okTm (t : Int) : Bool := decide (-1099511627776 ≤ t ∧ t ≤ 1099511627776)
def okC (c : Ch) : Bool := okG c.op.es c.op.cyc && okTm c.base && (if c.pe then okG c.ad.es c.ad.cyc && decide (-1099511627776 ≤ c.wh ∧ c.wh ≤ 2199023255552) && decide ((c.wh - c.base) % c.op.cyc = 0) else decide (c.ad.es = [] ∧ c.ad.cyc = 0 ∧ c.wh = 0))
structure OkC (c : Ch) : Prop where
  op : okG c.op.es c.op.cyc = true
  base : -1099511627776 ≤ c.base ∧ c.base ≤ 1099511627776
  ad : c.pe = true → okG c.ad.es c.ad.cyc = true
  wh : -1099511627776 ≤ c.wh ∧ c.wh ≤ 2199023255552
  at_ : c.pe = true → (c.wh - c.base) % c.op.cyc = 0
  no : c.pe = false → c.ad.es = [] ∧ c.ad.cyc = 0 ∧ c.wh = 0
def checkC (c : Ch) : Int := if okC c then 0 else 390
def newC (g : Gl) (base : Int) : Ch × Int := if okG g.es g.cyc then (if okTm base then (⟨g, base, false, g0, 0⟩, 0) else (c0, 2)) else (c0, 370)
def laterC (c : Ch) (now : Int) : Ch := if c.pe && decide (c.wh ≤ now ∧ c.wh ≤ 1099511627776) then ⟨c.ad, c.wh, false, g0, 0⟩ else c
def advC (c : Ch) (now : Int) : Ch × Int := if okC c then (if okTm now then (laterC c now, 0) else (c0, 2)) else (c0, 390)
def setB (c : Ch) (now : Int) (g : Gl) (base : Int) : Ch := { c with pe := true, ad := g, wh := max now base + (c.base - max now base) % c.op.cyc }
def setC (c : Ch) (now : Int) (g : Gl) (base : Int) : Ch × Int :=
  if okC c then (if okTm now then (if okG g.es g.cyc then (if okTm base then (setB (laterC c now) now g base, 0) else (c0, 2)) else (c0, 370)) else (c0, 2)) else (c0, 390)
def onAd (c : Ch) (x : Int) : Bool := c.pe && decide (c.wh ≤ x)
def atC (c : Ch) (x : Int) : Int := if onAd c x then stateE c.ad.es c.ad.cyc (x - c.wh) else stateE c.op.es c.op.cyc (x - c.base)
def maskC (c : Ch) (t : Int) : Int × Int := if okC c then (if okTm t then (atC c t, 0) else (0, 2)) else (0, 390)
def glC (c : Ch) (x : Int) : Gl := if onAd c x then c.ad else c.op
def begC (c : Ch) (x : Int) : Int := if onAd c x then c.wh else c.base
def endC (c : Ch) (e x : Int) : Int := if onAd c x then e else if c.pe then min e c.wh else e
def nextC (c : Ch) (e x : Int) : Int :=
  match turnE (glC c x).es (glC c x).cyc ((x - begC c x) % (glC c x).cyc) with
  | some u => min (endC c e x) (x + u - (x - begC c x) % (glC c x).cyc)
  | none => endC c e x
def stL (c : Ch) (e : Int) : Nat → Int → List Int
  | 0, _ => []
  | k + 1, x => if x < e then atC c x :: stL c e k (nextC c e x) else []
def stW (c : Ch) (e x : Int) : List Int := stL c e (e - x).toNat x
theorem OkC.gl {c : Ch} (h : OkC c) (x : Int) : okG (glC c x).es (glC c x).cyc = true := by
  unfold glC
  split
  · rename_i ho; unfold onAd at ho; simp at ho; exact h.ad ho.1
  · exact h.op
theorem OkC.beg {c : Ch} (h : OkC c) (x : Int) : -1099511627776 ≤ begC c x ∧ begC c x ≤ 2199023255552 := by
  unfold begC
  split
  · exact h.wh
  · have := h.base; omega
def fitB (c : Ch) (cl t lg : Int) : Bool := (stW c (t + lg) t).all fun m => bitE m cl
def argF (c : Ch) (cl t lg : Int) : Bool := okTm t && decide (0 ≤ cl ∧ cl ≤ 7 ∧ 0 ≤ lg ∧ lg ≤ 4 * c.op.cyc)
def fitsC (c : Ch) (cl t lg : Int) : Bool × Int := if okC c then (if argF c cl t lg then (fitB c cl t lg, 0) else (false, 2)) else (false, 390)
def sameG (a b : Gl) : Bool := decide (a.cyc = b.cyc) && decide (a.es = b.es)
def sameC (a b : Ch) : Bool := sameG a.op b.op && decide (a.base = b.base) && (a.pe == b.pe) && sameG a.ad b.ad && decide (a.wh = b.wh)
end Go.Sw

/-
  Choosing a queue, in plain terms: lines, heads, which class waits, fits and starts.
-/
namespace Go.Ch
open Go Go.Eng Go.Gt Go.Proofs.Gt Go.Sw Go.Qu
structure Ln where
  g : Gl
  per : Int
  sh : Int
def lnv (l : Ln) : List Value := [.slice l.g.A l.g.n l.g.cap, .int .i64 l.g.cyc, .int .i64 l.per, .int .i64 l.sh]
theorem lnv_len (l : Ln) : (lnv l).length = 4 := rfl
abbrev LnK (F : Know) (l : Ln) : Prop := GlK F l.g
def okL (l : Ln) : Bool := okG l.g.es l.g.cyc && decide (1 ≤ l.per ∧ l.per ≤ 1000 ∧ -1000 ≤ l.sh ∧ l.sh ≤ 1000)
def noneP (p : Pt) : Bool := (decide (p.it.st = 0) && (decide (p.it.sq = 0) && (decide (p.it.cl = 0) && (decide (p.it.sz = 0) && decide (p.it.sn = 0))))) && (decide (p.left = 0) && decide (p.rest = false))
def okAtH (c : Nat) (p : Pt) : Bool := noneP p || (okP p && decide (p.it.cl = (c : Int)))
def restN (hs : List Pt) : Nat := (hs.filter fun p => p.rest && !noneP p).length
def okH (hs : List Pt) : Bool := decide (hs.length = 8) && ((List.range 8).all fun c => okAtH c (atP hs c)) && decide (restN hs ≤ 1)
def errC (l : Ln) (hs : List Pt) (t : Int) : Int := if okL l then (if okH hs then (if 0 ≤ t ∧ t ≤ 549755813888 then 0 else 2) else 470) else 471
def heldC (hs : List Pt) (c : Int) : Bool := (List.range hs.length).any fun k => (atP hs k).rest && decide ((k : Int) ≠ c) && decide (c < 6)
def waitC (hs : List Pt) (c : Int) : Bool := !noneP (atP hs c.toNat) && !heldC hs c
def longC (l : Ln) (hs : List Pt) (c : Int) : Int := (atP hs c.toNat).left * l.per
def fitC (l : Ln) (hs : List Pt) (c t : Int) : Bool := (fitsA l.g.es l.g.cyc c (t + l.sh) (longC l hs c)).1 && decide ((fitsA l.g.es l.g.cyc c (t + l.sh) (longC l hs c)).2 = 0)
def mayC (l : Ln) (hs : List Pt) (c t : Int) : Bool := waitC hs c && fitC l hs c t
def downL : Nat → List Int
  | 0 => []
  | n + 1 => (n : Int) :: downL n
def classL (hs : List Pt) : List Int := (downL 8).filter (waitC hs)
end Go.Ch

/-
  Choosing a queue, in plain terms: heads one after the other.
-/
namespace Go.Ch
open Go Go.Eng Go.Gt Go.Proofs.Gt Go.Sw Go.Qu
def restB (p : Pt) : Bool := p.rest && !noneP p
def restK (hs : List Pt) (k : Nat) : Nat := ((hs.take k).filter restB).length
theorem restN_eq (hs : List Pt) : restN hs = (hs.filter restB).length := rfl
theorem restK_succ {hs : List Pt} {k : Nat} (hk : k < hs.length) : restK hs (k + 1) = restK hs k + (if restB (atP hs k) then 1 else 0) := by
  unfold restK
  rw [List.take_succ_eq_append_getElem hk, List.filter_append, List.length_append, atP_get hk]
  congr 1
  cases h : restB hs[k] <;> simp [h]
theorem restK_le (hs : List Pt) (k : Nat) : restK hs k ≤ restN hs := by
  rw [restN_eq]
  have h : hs.filter restB = (hs.take k).filter restB ++ (hs.drop k).filter restB := by rw [← List.filter_append, List.take_append_drop]
  rw [h, List.length_append]; unfold restK; omega
theorem restK_all {hs : List Pt} {k : Nat} (hk : hs.length ≤ k) : restK hs k = restN hs := by unfold restK; rw [List.take_of_length_le hk, restN_eq]
theorem okH_at {hs : List Pt} {k : Nat} (hk : k < 8) (h : okAtH k (atP hs k) = false) : okH hs = false := by
  cases e : okH hs with
  | false => rfl
  | true =>
    unfold okH at e
    simp only [Bool.and_eq_true, List.all_eq_true, List.mem_range] at e
    rw [e.1.2 k hk] at h; cases h
theorem okH_rest {hs : List Pt} {k : Nat} (h : 1 < restK hs k) : okH hs = false := by
  have := restK_le hs k
  unfold okH
  rw [decide_eq_false (p := restN hs ≤ 1) (by omega)]; simp
theorem okH_len {hs : List Pt} (h : hs.length ≠ 8) : okH hs = false := by unfold okH; rw [decide_eq_false h]; rfl
theorem okH_true {hs : List Pt} (h8 : hs.length = 8) (h : ∀ k, k < 8 → okAtH k (atP hs k) = true) (hr : restK hs 8 ≤ 1) : okH hs = true := by
  unfold okH
  rw [restK_all (by omega)] at hr
  rw [decide_eq_true h8, decide_eq_true hr]
  simp only [Bool.true_and, Bool.and_true, List.all_eq_true, List.mem_range]
  exact h
theorem okH_parts {hs : List Pt} (h : okH hs = true) : hs.length = 8 ∧ (∀ k, k < 8 → okAtH k (atP hs k) = true) ∧ restN hs ≤ 1 := by
  unfold okH at h
  simp only [Bool.and_eq_true, List.all_eq_true, List.mem_range, decide_eq_true_eq] at h
  exact ⟨h.1.1, h.1.2, h.2⟩
end Go.Ch

/-
  Choosing a queue, in plain terms: what a rest holds up.
-/
namespace Go.Ch
open Go Go.Eng Go.Gt Go.Proofs.Gt Go.Sw Go.Qu
theorem held_true {hs : List Pt} {c : Int} {k : Nat} (hk : k < hs.length) (h1 : (atP hs k).rest = true) (h2 : (k : Int) ≠ c) (h3 : c < 6) : heldC hs c = true := by
  unfold heldC
  rw [List.any_eq_true]
  exact ⟨k, List.mem_range.2 hk, by rw [h1, decide_eq_true h2, decide_eq_true h3]; rfl⟩
theorem held_false {hs : List Pt} {c : Int} (h : ∀ k, k < hs.length → ¬ ((atP hs k).rest = true ∧ (k : Int) ≠ c ∧ c < 6)) : heldC hs c = false := by
  cases e : heldC hs c with
  | false => rfl
  | true =>
    unfold heldC at e
    rw [List.any_eq_true] at e
    obtain ⟨k, hk, h1⟩ := e
    simp only [Bool.and_eq_true, decide_eq_true_eq] at h1
    exact absurd ⟨h1.1.1, h1.1.2, h1.2⟩ (h k (List.mem_range.1 hk))
end Go.Ch

/-
  Stretches as they are yielded.
-/
namespace Go.Sw
open Go Go.Eng Go.Gt Go.Proofs.Gt
theorem drop_head {α : Type} {l r : List α} {i : Nat} {a : α} (h : l.drop i = a :: r) : ∃ hi : i < l.length, l[i] = a ∧ l.drop (i + 1) = r := by
  have hi : i < l.length := by
    rcases Nat.lt_or_ge i l.length with h' | h'
    · exact h'
    · rw [List.drop_eq_nil_of_le h'] at h; cases h
  rw [List.drop_eq_getElem_cons hi] at h
  injection h with h1 h2
  exact ⟨hi, h1, h2⟩
theorem drop_nil {α : Type} {l : List α} {i : Nat} (h : l.drop i = []) (hi : i ≤ l.length) : i = l.length := by
  have := List.drop_eq_nil_iff.1 h
  omega
end Go.Sw

/-
  Choosing a queue, in plain terms: bounds of the heads, and who starts.
-/
namespace Go.Ch
open Go Go.Eng Go.Gt Go.Proofs.Gt Go.Sw Go.Qu
theorem noneP_left {p : Pt} (h : noneP p = true) : p.left = 0 := by
  unfold noneP at h; simp at h; exact h.2.1
theorem okAtH_left {c : Nat} {p : Pt} (h : okAtH c p = true) : 0 ≤ p.left ∧ p.left ≤ 1542 := by
  unfold okAtH at h
  cases e : noneP p with
  | true => rw [noneP_left e]; omega
  | false =>
    rw [e] at h; simp at h
    have := okP_bd h.1; omega
theorem okH_left {hs : List Pt} (h : okH hs = true) {c : Int} (hc : 0 ≤ c ∧ c ≤ 7) : 0 ≤ (atP hs c.toNat).left ∧ (atP hs c.toNat).left ≤ 1542 :=
  okAtH_left ((okH_parts h).2.1 c.toNat (by omega))
theorem okL_parts {l : Ln} (h : okL l = true) : okG l.g.es l.g.cyc = true ∧ (1 ≤ l.per ∧ l.per ≤ 1000) ∧ (-1000 ≤ l.sh ∧ l.sh ≤ 1000) := by
  unfold okL at h; simp at h; exact ⟨h.1, ⟨h.2.1, h.2.2.1⟩, h.2.2.2⟩
theorem errC_zero {l : Ln} {hs : List Pt} {t : Int} (h : errC l hs t = 0) : okL l = true ∧ okH hs = true ∧ (0 ≤ t ∧ t ≤ 549755813888) := by
  unfold errC at h; grind
def mayA (l : Ln) (hs : List Pt) (c t : Int) : Bool × Int := if errC l hs t ≠ 0 then (false, errC l hs t) else if 0 ≤ c ∧ c ≤ 7 then (mayC l hs c t, 0) else (false, 2)
def startL (l : Ln) (hs : List Pt) (t : Int) : Option Int := (classL hs).find? fun c => fitC l hs c t
def orE : Option Int → Int × Int
  | some x => (x, 0)
  | none => (0, 4)
def startA (l : Ln) (hs : List Pt) (t : Int) : Int × Int := if errC l hs t ≠ 0 then (0, errC l hs t) else orE (startL l hs t)
theorem classL_rng {hs : List Pt} {c : Int} (h : c ∈ classL hs) : (0 ≤ c ∧ c ≤ 7) ∧ waitC hs c = true := by
  unfold classL at h
  rw [List.mem_filter] at h
  refine ⟨?_, h.2⟩
  have := h.1
  simp [downL] at this
  omega
def fromC (l : Ln) (hs : List Pt) (t : Int) : Nat → Option Int
  | 0 => none
  | n + 1 => if mayC l hs n t then some (n : Int) else fromC l hs t n
theorem find_down (l : Ln) (hs : List Pt) (t : Int) : ∀ n, (((downL n).filter (waitC hs)).find? fun c => fitC l hs c t) = fromC l hs t n
  | 0 => rfl
  | n + 1 => by
    show (List.filter (waitC hs) ((n : Int) :: downL n)).find? _ = _
    rw [fromC, ← find_down l hs t n]
    cases h : waitC hs n with
    | false => rw [List.filter_cons_of_neg (by simp [h])]; simp [mayC, h]
    | true =>
      rw [List.filter_cons_of_pos h]
      cases h2 : fitC l hs n t <;> simp [mayC, h, h2]
theorem startL_eq (l : Ln) (hs : List Pt) (t : Int) : startL l hs t = fromC l hs t 8 := find_down l hs t 8
end Go.Ch

/-
  Choosing a queue, in plain terms: the least time, and the preemption.
-/
namespace Go.Ch
open Go Go.Eng Go.Gt Go.Proofs.Gt Go.Sw Go.Qu
def minS (o : Option Int) (p : Int × Int) : Option Int :=
  if p.2 = 0 then (match o with | none => some p.1 | some b => if p.1 < b then some p.1 else some b) else o
def lstK (xs : List (Int × Int)) (k : Nat) : Option Int := (xs.take k).foldl minS none
theorem lstK_succ {xs : List (Int × Int)} {k : Nat} (h : k < xs.length) : lstK xs (k + 1) = minS (lstK xs k) xs[k] := by
  unfold lstK
  rw [List.take_succ_eq_append_getElem h, List.foldl_append]; rfl
theorem lstK_all {xs : List (Int × Int)} : lstK xs xs.length = xs.foldl minS none := by unfold lstK; rw [List.take_length]
def Lst (P : Int → Prop) : Option Int → Prop
  | none => ∀ n, ¬ P n
  | some n => P n ∧ ∀ m, P m → n ≤ m
theorem Lst.step {P Q : Int → Prop} {o : Option Int} {p : Int × Int} (h : Lst P o) (hQ : ∀ n, Q n ↔ P n ∨ (p.2 = 0 ∧ p.1 = n)) : Lst Q (minS o p) := by
  unfold minS
  split
  · rename_i h0
    cases o with
    | none =>
      refine ⟨(hQ _).2 (.inr ⟨h0, rfl⟩), fun m hm => ?_⟩
      rcases (hQ m).1 hm with h1 | ⟨_, h1⟩
      · exact absurd h1 (h m)
      · omega
    | some b =>
      show Lst Q (if p.1 < b then some p.1 else some b)
      split
      · refine ⟨(hQ _).2 (.inr ⟨h0, rfl⟩), fun m hm => ?_⟩
        rcases (hQ m).1 hm with h1 | ⟨_, h1⟩
        · have := h.2 m h1; omega
        · omega
      · refine ⟨(hQ _).2 (.inl h.1), fun m hm => ?_⟩
        rcases (hQ m).1 hm with h1 | ⟨_, h1⟩
        · exact h.2 m h1
        · omega
  · rename_i h0
    have hPQ : ∀ n, Q n ↔ P n := fun n => ⟨fun hn => ((hQ n).1 hn).elim id fun h1 => absurd h1.1 h0, fun hn => (hQ n).2 (.inl hn)⟩
    cases o with
    | none => exact fun n hn => h n ((hPQ n).1 hn)
    | some b => exact ⟨(hPQ b).2 h.1, fun m hm => h.2 m ((hPQ m).1 hm)⟩
def fitN (l : Ln) (hs : List Pt) (t c : Int) : Int × Int := fitA l.g.es l.g.cyc c (t + l.sh) (longC l hs c)
def whenF (l : Ln) (hs : List Pt) (t c : Int) : Int × Int := ((fitN l hs t c).1 - l.sh, (fitN l hs t c).2)
def whenXs (l : Ln) (hs : List Pt) (t : Int) : List (Int × Int) := (classL hs).map (whenF l hs t)
def whenL (l : Ln) (hs : List Pt) (t : Int) : Option Int := (whenXs l hs t).foldl minS none
def whenA (l : Ln) (hs : List Pt) (t : Int) : Int × Int := if errC l hs t ≠ 0 then (0, errC l hs t) else orE (whenL l hs t)
def upK (l : Ln) (hs : List Pt) (t : Int) : Nat → Option Int
  | 0 => none
  | c + 1 => if waitC hs c then minS (upK l hs t c) (whenF l hs t c) else upK l hs t c
def WhP (l : Ln) (hs : List Pt) (t n : Int) : Prop := ∃ c : Int, (0 ≤ c ∧ c ≤ 7) ∧ waitC hs c = true ∧ (whenF l hs t c).2 = 0 ∧ (whenF l hs t c).1 = n
def preK (l : Ln) (b t : Int) : Int := max 64 ((t - b + l.per - 1) / l.per)
def preE (l : Ln) (b t : Int) : Int := b + (preK l b t + 24) * l.per
def preR (l : Ln) (o b t : Int) : Int := o - preK l b t + 24
def preB (l : Ln) (hs : List Pt) (o b t : Int) : Bool := decide (64 ≤ o - preK l b t) && (mayC l hs 6 (preE l b t) || mayC l hs 7 (preE l b t))
def argP (l : Ln) (o b t : Int) : Bool := decide (84 ≤ o ∧ o ≤ 1542 ∧ 0 ≤ b ∧ b ≤ t ∧ t ≤ b + o * l.per)
def preA (l : Ln) (hs : List Pt) (o b t : Int) : Int × Int × Int :=
  if errC l hs t ≠ 0 then (0, 0, errC l hs t) else if argP l o b t then (if preB l hs o b t then (preE l b t, preR l o b t, 0) else (0, 0, 4)) else (0, 0, 2)
theorem ceil_bd {x o p : Int} (hp : 1 ≤ p) (hx : 0 ≤ x) (hxo : x ≤ o * p) : 0 ≤ (x + p - 1) / p ∧ (x + p - 1) / p ≤ o ∧ x ≤ (x + p - 1) / p * p ∧ (x + p - 1) / p * p < x + p := by
  have h1 := Int.mul_ediv_add_emod (x + p - 1) p
  have h2 := Int.emod_nonneg (x + p - 1) (show p ≠ 0 by omega)
  have h3 := Int.emod_lt_of_pos (x + p - 1) (show 0 < p by omega)
  have h4 : p * ((x + p - 1) / p) = (x + p - 1) / p * p := Int.mul_comm _ _
  have h5 : 0 ≤ (x + p - 1) / p := Int.ediv_nonneg (by omega) (by omega)
  refine ⟨h5, ?_, by omega, by omega⟩
  have h6 : (x + p - 1) / p < o + 1 := Int.ediv_lt_of_lt_mul (by omega) (by rw [Int.add_mul, Int.one_mul]; omega)
  omega
end Go.Ch

/-
  Choosing a queue, in plain terms: the search through the classes.
-/
namespace Go.Ch
open Go Go.Eng Go.Gt Go.Proofs.Gt Go.Sw Go.Qu
theorem find_at {p : Int → Bool} : ∀ (xs : List Int) (k : Nat), k < xs.length → (∀ i, i < k → p (xs.getD i 0) = false) → p (xs.getD k 0) = true → xs.find? p = some (xs.getD k 0)
  | [], k, hk, _, _ => absurd hk (Nat.not_lt_zero k)
  | x :: r, 0, _, _, h1 => by
    simp at h1
    simp [List.find?_cons, h1]
  | x :: r, k + 1, hk, h, h1 => by
    have h0 := h 0 (by omega)
    simp at h0
    rw [List.find?_cons, h0]
    exact find_at r k (by simpa using hk) (fun i hi => by simpa using h (i + 1) (by omega)) (by simpa using h1)
theorem find_not {p : Int → Bool} {xs : List Int} (h : ∀ i, i < xs.length → p (xs.getD i 0) = false) : xs.find? p = none := by
  rw [List.find?_eq_none]
  intro x hx
  obtain ⟨i, hi, rfl⟩ := List.getElem_of_mem hx
  have := h i hi
  simp [hi] at this
  simp [this]
theorem start_some {l : Ln} {hs : List Pt} {t : Int} {k : Nat} (hk : k < (classL hs).length) (h : ∀ i, i < k → fitC l hs ((classL hs).getD i 0) t = false) (h1 : fitC l hs ((classL hs).getD k 0) t = true) : startL l hs t = some ((classL hs).getD k 0) :=
  find_at (classL hs) k hk h h1
theorem start_none {l : Ln} {hs : List Pt} {t : Int} (h : ∀ i, i < (classL hs).length → fitC l hs ((classL hs).getD i 0) t = false) : startL l hs t = none := find_not h
theorem class_at {hs : List Pt} {k : Nat} (hk : k < (classL hs).length) : (0 ≤ (classL hs).getD k 0 ∧ (classL hs).getD k 0 ≤ 7) ∧ waitC hs ((classL hs).getD k 0) = true := by
  refine classL_rng ?_
  rw [List.getD_eq_getElem?_getD, List.getElem?_eq_getElem hk]
  exact List.getElem_mem hk
theorem startL_rng {l : Ln} {hs : List Pt} {t c : Int} (h : startL l hs t = some c) : (0 ≤ c ∧ c ≤ 7) ∧ waitC hs c = true ∧ fitC l hs c t = true := by
  have h1 := List.mem_of_find?_eq_some h
  have h2 := List.find?_some h
  exact ⟨(classL_rng h1).1, (classL_rng h1).2, h2⟩
end Go.Ch

/-
  Choosing a queue, in plain terms: bounds of the times at which a class fits.
-/
namespace Go.Ch
open Go Go.Eng Go.Gt Go.Proofs.Gt Go.Sw Go.Qu
theorem fitA_rng {es : Ents} {cyc : Int} (hG : okG es cyc = true) {cl t lg : Int} : -1099511627776 ≤ (fitA es cyc cl t lg).1 ∧ (fitA es cyc cl t lg).1 ≤ 2 * 1099511627776 := by
  obtain ⟨_, _, _, _, _, hc⟩ := okG_parts hG
  unfold fitA
  split
  · rename_i h
    have ht : -1099511627776 ≤ t ∧ t ≤ 1099511627776 := by
      unfold errG at h; rw [if_pos hG] at h
      split at h
      · rename_i h2; simp only [okT, decide_eq_true_eq] at h2; omega
      · cases h
    cases e : fitE es cyc cl t lg with
    | none => simp [orErr]
    | some a =>
      have := fit_some hG e
      simp only [orErr]; omega
  · simp
end Go.Ch

/-
  Choosing a queue, in plain terms: the classes that no rest holds up.
-/
namespace Go.Ch
open Go Go.Eng Go.Gt Go.Proofs.Gt Go.Sw Go.Qu
end Go.Ch

/-
  Choosing a queue, in plain terms: what the laws' helpers make.
-/
namespace Go.Ch
open Go Go.Eng Go.Gt Go.Proofs.Gt Go.Sw Go.Qu
def putH (hs : List Pt) (p : Pt) : List Pt := hs.set p.it.cl.toNat p
def headK (ps : List Pt) (k : Nat) : List Pt := (ps.take k).foldl putH (List.replicate 8 dPt)
def headsL (ps : List Pt) : List Pt := ps.foldl putH (List.replicate 8 dPt)
def frameP (c z : Int) : Pt := ⟨⟨0, 0, c, z, 0⟩, z, false⟩
def halfE : Ents := [(255, 1000), (128, 1000)]
def halfL (A : Option Addr) (n cap : Nat) : Ln := ⟨⟨A, n, cap, halfE, 2000⟩, 1, 0⟩
def fewN (l : Ln) : Nat := (min (l.g.n : Int) 129).toNat
def fewL (l : Ln) : Ln := ⟨⟨l.g.A, fewN l, l.g.cap, l.g.es.take (fewN l), l.g.cyc⟩, l.per, l.sh⟩
end Go.Ch

/-
  Choosing a queue, in plain terms: the answers, case by case.
-/
namespace Go.Ch
open Go Go.Eng Go.Gt Go.Proofs.Gt Go.Sw Go.Qu
variable {l : Ln} {hs : List Pt} {c t o b : Int}
theorem startA_err (h : errC l hs t ≠ 0) : startA l hs t = (0, errC l hs t) := by unfold startA; rw [if_pos h]
theorem startA_ok (h : errC l hs t = 0) : startA l hs t = orE (startL l hs t) := by unfold startA; rw [if_neg (by simp [h])]
end Go.Ch

/-
  Choosing a queue, in plain terms: the least time, and the greatest class.
-/
namespace Go.Ch
open Go Go.Eng Go.Gt Go.Proofs.Gt Go.Sw Go.Qu
variable {l : Ln} {hs : List Pt} {c t o b n x : Int}
theorem from_top : ∀ (k : Nat) (c : Int), fromC l hs t k = some c → (0 ≤ c ∧ c < k) ∧ mayC l hs c t = true ∧ ∀ j : Int, c < j → j < k → mayC l hs j t = false
  | 0, c, h => by cases h
  | k + 1, c, h => by
    unfold fromC at h
    split at h
    · rename_i hm
      have e : (k : Int) = c := by simpa using h
      subst e
      exact ⟨by omega, hm, fun j h1 h2 => by omega⟩
    · rename_i hm
      obtain ⟨h1, h2, h3⟩ := from_top k c h
      refine ⟨by omega, h2, fun j h4 h5 => ?_⟩
      by_cases e : j = (k : Int)
      · rw [e]; simpa using hm
      · exact h3 j h4 (by omega)
theorem start_top (h : startL l hs t = some c) : (0 ≤ c ∧ c ≤ 7) ∧ mayC l hs c t = true ∧ ∀ j : Int, c < j → j ≤ 7 → mayC l hs j t = false := by
  rw [startL_eq] at h
  obtain ⟨h1, h2, h3⟩ := from_top 8 c h
  exact ⟨by omega, h2, fun j h4 h5 => h3 j h4 (by omega)⟩
end Go.Ch

/-
  Choosing a queue, in plain terms: what the laws compare.
-/
namespace Go.Ch
open Go Go.Eng Go.Gt Go.Proofs.Gt Go.Sw Go.Qu
variable {l : Ln} {hs : List Pt} {c t o b n e s f x : Int}
theorem high_good (hst : startA l hs t = (s, f)) (hf : ¬ f ≠ 0) :
    errC l hs t = 0 ∧ okH hs = true ∧ (0 ≤ s ∧ s ≤ 7) ∧ mayC l hs s t = true ∧ ∀ j : Int, s < j → j ≤ 7 → mayC l hs j t = false := by
  have hz : errC l hs t = 0 := by
    cases h : decide (errC l hs t = 0) with
    | true => simpa using h
    | false => rw [startA_err (by simpa using h)] at hst; cases hst; simpa using hf
  obtain ⟨hL, hH, ht⟩ := errC_zero hz
  rw [startA_ok hz] at hst
  cases h : startL l hs t with
  | none => rw [h] at hst; cases hst; exact absurd (by decide) hf
  | some n2 => rw [h] at hst; cases hst; exact ⟨hz, hH, start_top h⟩
end Go.Ch

/-
  Choosing a queue, in plain terms: preempted fragments, and a line that is always open.
-/
namespace Go.Ch
open Go Go.Eng Go.Gt Go.Proofs.Gt Go.Sw Go.Qu
variable {l : Ln} {hs : List Pt} {c t o b n e s f x y z : Int}
def openE : Ents := [(255, 1)]
def openLn (A : Option Addr) (n cap : Nat) (P : Int) : Ln := ⟨⟨A, n, cap, openE, 1⟩, P, 0⟩
variable {A : Option Addr} {m cap : Nat} {P : Int}
def lastB (p : Nat → Bool) : Nat → Int
  | 0 => -1
  | k + 1 => if p k then (k : Int) else lastB p k
end Go.Ch
namespace Go.Ch
end Go.Ch

/-
  A port, in plain terms.
-/
namespace Go.Po
open Go Go.Eng Go.Gt Go.Proofs.Gt Go.Sw Go.Qu Go.Ch
abbrev Qd := Int × List Pt
structure Qm where
  cap : Int
  A : Option Addr
  n : Nat
  c : Nat
  ps : List Pt
def Qm.lg (q : Qm) : Qd := (q.cap, q.ps)
def qmv (q : Qm) : List Value := [.int .i64 q.cap, .slice q.A q.n q.c]
theorem qmv_len (q : Qm) : (qmv q).length = 2 := rfl
def QmK (F : Know) (q : Qm) : Prop := PK F q.A q.n q.ps ∧ q.n ≤ q.c ∧ q.c ≤ maxLen ∧ q.n ≤ 65536
def dQm : Qm := ⟨0, none, 0, 0, []⟩
def atQ (qs : List Qd) (k : Nat) : Qd := qs.getD k (0, [])
structure QsK (F : Know) (B : Option Addr) (m : Nat) (ms : List Qm) : Prop where
  rows : RowsK qmv 2 F B m ms
  each : ∀ q ∈ ms, QmK F q
theorem QmK.mono {F F' : Know} {q : Qm} (h : QmK F q) (hF : Incl F F') : QmK F' q := ⟨h.1.mono hF, h.2⟩
theorem QsK.mono {F F' : Know} {B : Option Addr} {m : Nat} {ms : List Qm} (h : QsK F B m ms) (hF : Incl F F') : QsK F' B m ms := ⟨h.rows.mono hF, fun q hq => (h.each q hq).mono hF⟩
theorem QsK.nil {F : Know} : QsK F none 0 [] := ⟨rowsK_of qmv_len (by decide) (fun j u h => by cases h) rfl, fun q h => by cases h⟩
structure Ps where
  l : Ln
  now : Int
  qs : List Qd
  busy : Bool
  snd : Pt
  began : Int
  fin : Int
  rest : Int
def psv (p : Ps) (B : Option Addr) (m d : Nat) : List Value :=
  [.slice p.l.g.A p.l.g.n p.l.g.cap, .int .i64 p.l.g.cyc, .int .i64 p.l.per, .int .i64 p.l.sh, .int .i64 p.now, .slice B m d, .bool p.busy,
   .int .i64 p.snd.it.st, .int .i64 p.snd.it.sq, .int .i64 p.snd.it.cl, .int .i64 p.snd.it.sz, .int .i64 p.snd.it.sn, .int .i64 p.snd.left, .bool p.snd.rest, .int .i64 p.began, .int .i64 p.fin, .int .i64 p.rest]
structure PsK (F : Know) (p : Ps) (B : Option Addr) (m d : Nat) (ms : List Qm) : Prop where
  line : LnK F p.l
  qk : QsK F B m ms
  lg : ms.map Qm.lg = p.qs
  md : m ≤ d
  dm : d ≤ maxLen
  ln : p.l.g.n ≤ p.l.g.cap
theorem PsK.mono {F F' : Know} {p : Ps} {B : Option Addr} {m d : Nat} {ms : List Qm} (h : PsK F p B m d ms) (hF : Incl F F') : PsK F' p B m d ms :=
  ⟨EntK.mono h.line hF, h.qk.mono hF, h.lg, h.md, h.dm, h.ln⟩
theorem PsK.len {F : Know} {p : Ps} {B : Option Addr} {m d : Nat} {ms : List Qm} (h : PsK F p B m d ms) : m = ms.length ∧ p.qs.length = ms.length := ⟨h.qk.rows.len, by rw [← h.lg, List.length_map]⟩
theorem PsK.at_ {F : Know} {p : Ps} {B : Option Addr} {m d k : Nat} {ms : List Qm} (h : PsK F p B m d ms) (hk : k < ms.length) : atQ p.qs k = (ms[k].cap, ms[k].ps) := by
  unfold atQ
  rw [← h.lg]
  simp [hk, Qm.lg]
def zeroL : Ln := ⟨g0, 0, 0⟩
def zeroP : Ps := ⟨zeroL, 0, [], false, dPt, 0, 0, 0⟩
theorem zero_k (F : Know) : PsK F zeroP none 0 0 [] := ⟨g0_k F, QsK.nil, rfl, Nat.le_refl _, Nat.zero_le _, Nat.le_refl _⟩
structure Cm where
  at_ : Int
  it : It
def cmv (x : Cm) : List Value := [.int .i64 x.at_, .int .i64 x.it.st, .int .i64 x.it.sq, .int .i64 x.it.cl, .int .i64 x.it.sz, .int .i64 x.it.sn]
theorem cmv_len (x : Cm) : (cmv x).length = 6 := rfl
/-! ### What the functions answer -/
def sendOk (p : Ps) : Bool :=
  if p.busy = false then noneP p.snd && decide (p.began = 0 ∧ p.fin = 0 ∧ p.rest = 0)
  else okP p.snd && decide (0 ≤ p.began ∧ p.began ≤ p.now ∧ p.now ≤ p.fin) &&
    (if p.rest = 0 then decide (p.fin = p.began + p.snd.left * p.l.per)
     else decide (p.snd.it.cl < 6 ∧ 88 ≤ p.rest ∧ p.rest ≤ p.snd.left - 40 ∧ p.fin = p.began + (p.snd.left - p.rest + 48) * p.l.per))
def lowS (p : Ps) : Bool := p.busy && decide (p.snd.it.cl < 6)
def okQ (c : Nat) (q : Qd) : Bool := rightQ q.1 q.2 && q.2.all fun x => decide (x.it.cl = (c : Int))
def headR (q : Qd) : Bool := (headQ q.1 q.2).2 && (headQ q.1 q.2).1.rest
def restsK (p : Ps) (k : Nat) : Nat := (if lowS p then 1 else 0) + ((p.qs.take k).filter headR).length
def frontB (p : Ps) : Bool := okL p.l && decide (0 ≤ p.now ∧ p.now ≤ 549755813888) && decide (p.qs.length = 8) && sendOk p
def checkB (p : Ps) : Bool := frontB p && ((List.range 8).all fun c => okQ c (atQ p.qs c)) && decide (restsK p 8 ≤ 1)
def headsS (p : Ps) : List Pt := p.qs.map fun q => (headQ q.1 q.2).1
def atB (p : Ps) (t : Int) : Bool := decide (p.now ≤ t ∧ t ≤ 549755813888) && (!p.busy || decide (t ≤ p.fin))
def setS (p : Ps) (c : Int) (q : Qd) : Ps := { p with qs := p.qs.set c.toNat q }
def arriveS (p : Ps) (x : It) : Ps × Bool × Int :=
  if okI x = false then (p, false, 460) else
  let q := atQ p.qs x.cl.toNat
  let r := pushQ q.1 q.2 x
  if r.2.2 ≠ 0 then (p, r.2.1, r.2.2) else (setS p x.cl r.1, r.2.1, 0)
def idleS (p : Ps) : Ps := { p with busy := false, snd := dPt, began := 0, fin := 0, rest := 0 }
def endS (p : Ps) (g : List Cm) : Ps × List Cm × Int :=
  if p.busy = false ∨ p.fin ≠ p.now then (p, g, 2) else
  if p.rest = 0 then (idleS p, g ++ [⟨p.now, p.snd.it⟩], 0) else
  let q := atQ p.qs p.snd.it.cl.toNat
  let r := retQ q.1 q.2 ⟨p.snd.it, p.rest, true⟩
  if r.2 ≠ 0 then (idleS p, g, r.2) else (setS (idleS p) p.snd.it.cl r.1, g, 0)
def beginS (p : Ps) (x : Pt) : Ps := { p with busy := true, snd := x, began := p.now, fin := p.now + x.left * p.l.per }
def startS (p : Ps) : Ps × Int :=
  if p.busy = true then (p, 0) else
  let s := startA p.l (headsS p) p.now
  if s.2 = 4 then (p, 0) else if s.2 ≠ 0 then (p, s.2) else
  let q := atQ p.qs s.1.toNat
  let r := popQ q.1 q.2
  if r.2.2 ≠ 0 then (beginS p r.2.1, r.2.2) else (setS (beginS p r.2.1) s.1 r.1, 0)
def preemptS (p : Ps) : Ps × Int :=
  if p.busy = false ∨ ¬ p.snd.it.cl < 6 ∨ 0 < p.rest then (p, 0) else
  let r := preA p.l (headsS p) p.snd.left p.began p.now
  if r.2.2 = 0 then ({ p with fin := r.1, rest := r.2.1 }, 0) else if r.2.2 = 4 then (p, 0) else (p, r.2.2)
def chooseS (p : Ps) : Ps × Int := if (preemptS p).2 ≠ 0 then preemptS p else startS (preemptS p).1
def nextS (p : Ps) : Int × Int := if p.busy = true then (p.fin, 0) else whenA p.l (headsS p) p.now
def newS (l : Ln) (cs : List Int) : Ps × Int :=
  if okL l = false then (zeroP, 471) else if cs.length ≠ 8 then (zeroP, 2) else if cs.all (fun c => decide (0 ≤ c ∧ c ≤ 65536)) then (⟨l, 0, cs.map fun c => (c, []), false, dPt, 0, 0, 0⟩, 0) else (zeroP, 2)
def stayS (p : Ps) (t : Int) : Ps := { p with now := t }
def arriveA (p : Ps) (t : Int) (x : It) : Ps × Bool × Int :=
  if checkB p = false then (zeroP, false, 480) else if atB p t = false then (zeroP, false, 2) else
  let r := arriveS (stayS p t) x
  if r.2.2 ≠ 0 then (zeroP, false, r.2.2) else r
def endA (p : Ps) (t : Int) : Ps × It × Bool × Int :=
  if checkB p = false then (zeroP, dIt, false, 480) else if atB p t = false then (zeroP, dIt, false, 2) else
  let r := endS (stayS p t) []
  if r.2.2 ≠ 0 then (zeroP, dIt, false, r.2.2) else match r.2.1 with
  | [] => (r.1, dIt, false, 0)
  | x :: _ => (r.1, x.it, true, 0)
def chooseA (p : Ps) (t : Int) : Ps × Int :=
  if checkB p = false then (zeroP, 480) else if atB p t = false then (zeroP, 2) else
  let r := chooseS (stayS p t)
  if r.2 ≠ 0 then (zeroP, r.2) else r
def nextA (p : Ps) : Int × Int := if checkB p = false then (0, 480) else nextS p
end Go.Po
namespace Go.Po
open Go Go.Eng
theorem cells_sub {F : Know} {q N n : Nat} {vs r : List Value} (H : ∀ j, j < N → F ((⟨q, 0, none⟩ : Addr).add j) = vs[j]?) (off : Nat) (h : off + n ≤ N) (hr : (vs.drop off).take n = r) : ∀ j, j < n → F ((⟨q, off, none⟩ : Addr).add j) = r[j]? := fun j hj => by
  have := H (off + j) (by omega)
  rw [add_mk] at this ⊢
  rw [Nat.zero_add] at this
  rw [this, ← hr, List.getElem?_take, if_pos hj, List.getElem?_drop]
theorem cells_mono {F F' : Know} {q N : Nat} {vs : List Value} (h : ∀ j, j < N → F ((⟨q, 0, none⟩ : Addr).add j) = vs[j]?) (hN : vs.length = N) (hF : Incl F F') : ∀ j, j < N → F' ((⟨q, 0, none⟩ : Addr).add j) = vs[j]? := fun j hj => by
  obtain ⟨u, hu⟩ : ∃ u, vs[j]? = some u := ⟨_, List.getElem?_eq_getElem (by rw [hN]; exact hj)⟩
  have := h j hj
  rw [hu] at this ⊢
  exact hF _ _ this
def pev (p : Ps) (B : Option Addr) (m d : Nat) (G : Option Addr) (k gk : Nat) : List Value := psv p B m d ++ [.slice G k gk]
end Go.Po

/-
  A port, in plain terms: what Check looks at.
-/
namespace Go.Po
open Go Go.Eng Go.Gt Go.Proofs.Gt Go.Sw Go.Qu Go.Ch
def idxF (c : Int) : List Pt → Nat → Int
  | [], _ => -1
  | p :: r, i => if p.it.cl = c then idxF c r (i + 1) else (i : Int)
theorem idxF_all {c : Int} : ∀ (ps : List Pt) (i : Nat), (∀ p ∈ ps, p.it.cl = c) → idxF c ps i = -1
  | [], _, _ => rfl
  | p :: r, i, h => by rw [idxF, if_pos (h p (.head _))]; exact idxF_all r _ fun q hq => h q (.tail _ hq)
theorem idxF_at {c : Int} : ∀ (ps : List Pt) (i k : Nat) (hk : k < ps.length), (∀ j, j < k → (atP ps j).it.cl = c) → (atP ps k).it.cl ≠ c → idxF c ps i = ((i + k : Nat) : Int)
  | [], _, _, hk, _, _ => absurd hk (Nat.not_lt_zero _)
  | p :: r, i, 0, _, _, h1 => by
    have h1' : p.it.cl ≠ c := by simpa [atP] using h1
    rw [idxF, if_neg h1']; simp
  | p :: r, i, k + 1, hk, h, h1 => by
    have h0 : p.it.cl = c := by simpa [atP] using h 0 (by omega)
    rw [idxF, if_pos h0, idxF_at r (i + 1) k (by simpa using hk) (fun j hj => by simpa [atP] using h (j + 1) (by omega)) (by simpa [atP] using h1)]
    congr 1; omega
theorem all_at {c : Int} {ps : List Pt} (h : ∀ j, j < ps.length → (atP ps j).it.cl = c) : ∀ p ∈ ps, p.it.cl = c := fun p hp => by
  obtain ⟨j, hj, rfl⟩ := List.getElem_of_mem hp
  rw [← atP_get hj]; exact h j hj
theorem idxF_pos {c : Int} {ps : List Pt} : decide (0 ≤ idxF c ps 0) = !(ps.all fun x => decide (x.it.cl = c)) := by
  have key : ∀ (ps : List Pt) (i : Nat), decide (0 ≤ idxF c ps i) = !(ps.all fun x => decide (x.it.cl = c)) := by
    intro ps
    induction ps with
    | nil => intro i; rfl
    | cons p r ih =>
      intro i
      rw [idxF, List.all_cons]
      by_cases h : p.it.cl = c
      · rw [if_pos h, ih, decide_eq_true h, Bool.true_and]
      · rw [if_neg h, decide_eq_false h]; simp
  exact key ps 0
theorem octs_low : ∀ {ps : List Pt}, (∀ p ∈ ps, okP p = true) → 84 * (ps.length : Int) ≤ octs ps
  | [], _ => by simp [octs]
  | p :: r, h => by
    have h1 := okP_bd (h p (.head _))
    have h2 := octs_low (ps := r) fun q hq => h q (.tail _ hq)
    simp only [octs, List.map_cons, List.sum_cons, List.length_cons] at h2 ⊢
    omega
theorem right_len {cap : Int} {ps : List Pt} (h : rightQ cap ps = true) : ps.length ≤ 800 := by
  unfold rightQ at h
  simp only [Bool.and_eq_true, decide_eq_true_eq] at h
  obtain ⟨⟨h1, h2⟩, h3⟩ := h
  have h4 := octs_low fun p hp => valid_mem h2 hp
  unfold fullO at h3
  split at h3
  · rename_i hr
    unfold restQ at hr
    simp only [Bool.and_eq_true, decide_eq_true_eq] at hr
    have := okP_bd (valid_bd h2 hr.1)
    omega
  · omega
theorem restsK_succ {p : Ps} {k : Nat} (hk : k < p.qs.length) : restsK p (k + 1) = restsK p k + (if headR (atQ p.qs k) then 1 else 0) := by
  unfold restsK
  have e : atQ p.qs k = p.qs[k] := by unfold atQ; simp [hk]
  rw [List.take_succ_eq_append_getElem hk, List.filter_append, List.length_append, e]
  cases h : headR p.qs[k] <;> simp [h]; omega
theorem check_front {p : Ps} (h : frontB p = false) : checkB p = false := by unfold checkB; rw [h]; rfl
theorem check_at {p : Ps} {k : Nat} (hk : k < 8) (h : okQ k (atQ p.qs k) = false) : checkB p = false := by
  cases e : checkB p with
  | false => rfl
  | true =>
    unfold checkB at e
    simp only [Bool.and_eq_true, List.all_eq_true, List.mem_range] at e
    rw [e.1.2 k hk] at h; cases h
theorem check_rest {p : Ps} (h : 1 < restsK p 8) : checkB p = false := by unfold checkB; rw [decide_eq_false (p := restsK p 8 ≤ 1) (by omega)]; simp
theorem check_true {p : Ps} (h1 : frontB p = true) (h2 : ∀ k, k < 8 → okQ k (atQ p.qs k) = true) (h3 : restsK p 8 ≤ 1) : checkB p = true := by
  unfold checkB
  rw [h1, decide_eq_true h3]
  simp only [Bool.true_and, Bool.and_true, List.all_eq_true, List.mem_range]
  exact h2
theorem check_parts {p : Ps} (h : checkB p = true) : frontB p = true ∧ (∀ k, k < 8 → okQ k (atQ p.qs k) = true) ∧ restsK p 8 ≤ 1 := by
  unfold checkB at h
  simp only [Bool.and_eq_true, List.all_eq_true, List.mem_range, decide_eq_true_eq] at h
  exact ⟨h.1.1, h.1.2, h.2⟩
theorem front_parts {p : Ps} (h : frontB p = true) : okL p.l = true ∧ (0 ≤ p.now ∧ p.now ≤ 549755813888) ∧ p.qs.length = 8 ∧ sendOk p = true := by
  unfold frontB at h
  simp only [Bool.and_eq_true, decide_eq_true_eq] at h
  exact ⟨h.1.1.1, h.1.1.2, h.1.2, h.2⟩
end Go.Po

/-
  A port, in plain terms: the heads of its queues.
-/
namespace Go.Po
open Go Go.Eng Go.Gt Go.Proofs.Gt Go.Sw Go.Qu Go.Ch
def headQs (q : Qd) : Pt := (headQ q.1 q.2).1
theorem headsS_eq (p : Ps) : headsS p = p.qs.map headQs := rfl
def hdK (p : Ps) (k : Nat) : List Pt := (headsS p).take k ++ List.replicate (8 - k) dPt
theorem hdK_len {p : Ps} (h8 : p.qs.length = 8) {k : Nat} (hk : k ≤ 8) : (hdK p k).length = 8 := by
  unfold hdK
  rw [List.length_append, List.length_take, List.length_replicate, headsS_eq, List.length_map]; omega
theorem hdK_all {p : Ps} (h8 : p.qs.length = 8) : hdK p 8 = headsS p := by
  unfold hdK
  rw [List.take_of_length_le (by rw [headsS_eq, List.length_map]; omega)]
  simp
theorem hdK_succ {p : Ps} (h8 : p.qs.length = 8) {k : Nat} (hk : k < 8) : hdK p (k + 1) = (hdK p k).set k (headQs (atQ p.qs k)) := by
  have hl : (headsS p).length = 8 := by rw [headsS_eq, List.length_map, h8]
  have e1 : (headsS p)[k]'(by omega) = headQs (atQ p.qs k) := by
    simp only [headsS_eq, List.getElem_map]
    congr 1
    unfold atQ; simp [h8, hk]
  apply List.ext_getElem
  · rw [List.length_set, hdK_len h8 (by omega), hdK_len h8 (by omega)]
  · intro i h1 h2
    rw [hdK_len h8 (by omega)] at h1
    rw [List.getElem_set]
    simp only [hdK]
    by_cases e : k = i
    · subst e
      rw [if_pos rfl, List.getElem_append_left (by rw [List.length_take]; omega), List.getElem_take, e1]
    · rw [if_neg e]
      by_cases h3 : i < k
      · rw [List.getElem_append_left (by rw [List.length_take]; omega), List.getElem_append_left (by rw [List.length_take]; omega), List.getElem_take, List.getElem_take]
      · rw [List.getElem_append_right (by rw [List.length_take]; omega), List.getElem_append_right (by rw [List.length_take]; omega), List.getElem_replicate, List.getElem_replicate]
theorem headsS_len {p : Ps} (h8 : p.qs.length = 8) : (headsS p).length = 8 := by rw [headsS_eq, List.length_map, h8]
end Go.Po

/-
  A port, in plain terms: a queue of a port is replaced.
-/
namespace Go.Po
open Go Go.Eng Go.Gt Go.Proofs.Gt Go.Sw Go.Qu Go.Ch
theorem qmv_one (ms : List Qm) : (rowsV qmv ms).all oneCell = true := by
  rw [List.all_eq_true]
  intro v hv
  obtain ⟨q, _, h⟩ := List.mem_flatMap.1 hv
  simp only [qmv, List.mem_cons, List.not_mem_nil, or_false] at h
  rcases h with rfl | rfl <;> rfl
theorem set_rows {ms : List Qm} {c : Int} (hc : c.toNat < ms.length) (u : Qm) : setV (c.toNat * 2) (qmv u) (rowsV qmv ms) some = some (rowsV qmv (ms.set c.toNat u)) := by
  have h1 := setV_splice (off := c.toNat * 2) (vs := qmv u) (l := rowsV qmv ms) some (by rw [qmv_len, rowsV_len qmv_len]; omega)
  rw [h1]
  have h2 := splice_rows qmv_len hc u []
  rw [List.append_nil, List.append_nil] at h2
  rw [h2]
theorem set_k {F : Know} {p : Ps} {B B2 : Option Addr} {m d d2 : Nat} {ms : List Qm} (hK : PsK F p B m d ms) {c : Int} {u : Qm} (hu : QmK F u) (hr : RowsK qmv 2 F B2 m (ms.set c.toNat u)) (hm : m ≤ d2) (hd : d2 ≤ maxLen) :
    PsK F (setS p c u.lg) B2 m d2 (ms.set c.toNat u) :=
  ⟨hK.line, ⟨hr, fun q hq => by
    rcases List.mem_or_eq_of_mem_set hq with h | h
    · exact hK.qk.each q h
    · rw [h]; exact hu⟩, by
    show (ms.set c.toNat u).map Qm.lg = p.qs.set c.toNat u.lg
    rw [← hK.lg, List.map_set], hm, hd, hK.ln⟩
theorem ret_len2 {cap : Int} {ps : List Pt} {x : Pt} : (retQ cap ps x).1.2.length ≤ 801 := by
  unfold retQ
  split
  · simp
  · rename_i h
    have := right_len (cap := cap) (ps := ps) (by simpa using h)
    split
    · simp
    · split
      · simp
      · simp; omega
theorem push_len2 {cap : Int} {ps : List Pt} {x : It} : (pushQ cap ps x).1.2.length ≤ 801 := by
  unfold pushQ
  split
  · simp
  · rename_i h
    have := right_len (cap := cap) (ps := ps) (by simpa using h)
    split
    · simp
    · split
      · simp; omega
      · simp; omega
theorem pop_len2 {cap : Int} {ps : List Pt} : (popQ cap ps).1.2.length ≤ 801 := by
  unfold popQ
  split
  · simp
  · rename_i h
    have := right_len (cap := cap) (ps := ps) (by simpa using h)
    split
    · simp
    · simp; omega
theorem qv_m {F : Know} {v : Value} {cap : Int} {ps : List Pt} (h : QV F v cap ps) (hl : ps.length ≤ 801) : ∃ u : Qm, v = .agg (qmv u).toArray ∧ u.lg = (cap, ps) ∧ QmK F u := by
  obtain ⟨A, n, c, rfl, h1, h2, h3⟩ := h
  exact ⟨⟨cap, A, n, c, ps⟩, rfl, rfl, h3, h1, h2, by show n ≤ 65536; rw [h3.len]; omega⟩
theorem pop_left {cap : Int} {ps : List Pt} : 0 ≤ (popQ cap ps).2.1.left ∧ (popQ cap ps).2.1.left ≤ 1542 := by
  unfold popQ
  split
  · exact ⟨by decide, by decide⟩
  · rename_i h
    split
    · exact ⟨by decide, by decide⟩
    · have hr : rightQ cap ps = true := by simpa using h
      unfold rightQ at hr
      simp only [Bool.and_eq_true] at hr
      have := okP_bd (valid_bd hr.1.2 (k := 0) (by omega))
      simp only; omega
end Go.Po

/-
  A port, in plain terms: what a transmission's beginning and end come to.
-/
namespace Go.Po
open Go Go.Eng Go.Gt Go.Proofs.Gt Go.Sw Go.Qu Go.Ch
variable {p : Ps} {x y e : Int}
theorem startS_busy (h : p.busy = true) : startS p = (p, 0) := by unfold startS; rw [if_pos h]
theorem startS_none (h : ¬ p.busy = true) (hs : startA p.l (headsS p) p.now = (x, 4)) : startS p = (p, 0) := by unfold startS; rw [if_neg h, hs]; rfl
theorem startS_err (h : ¬ p.busy = true) (hs : startA p.l (headsS p) p.now = (x, y)) (h4 : ¬ y = 4) (h0 : y ≠ 0) : startS p = (p, y) := by
  unfold startS; rw [if_neg h, hs]; simp only; rw [if_neg h4, if_pos h0]
theorem startS_pop (h : ¬ p.busy = true) (hs : startA p.l (headsS p) p.now = (x, 0)) :
    startS p = (if (popQ (atQ p.qs x.toNat).1 (atQ p.qs x.toNat).2).2.2 = 0 then setS (beginS p (popQ (atQ p.qs x.toNat).1 (atQ p.qs x.toNat).2).2.1) x (popQ (atQ p.qs x.toNat).1 (atQ p.qs x.toNat).2).1 else beginS p (popQ (atQ p.qs x.toNat).1 (atQ p.qs x.toNat).2).2.1, (popQ (atQ p.qs x.toNat).1 (atQ p.qs x.toNat).2).2.2) := by
  unfold startS
  rw [if_neg h, hs]
  simp only
  rw [if_neg (by decide), if_neg (by decide)]
  split <;> simp_all
theorem arriveS_bad {i : It} (h : okI i = false) : arriveS p i = (p, false, 460) := by unfold arriveS; rw [if_pos h]
theorem arriveS_push {i : It} (h : okI i = true) :
    arriveS p i = (if (pushQ (atQ p.qs i.cl.toNat).1 (atQ p.qs i.cl.toNat).2 i).2.2 = 0 then setS p i.cl (pushQ (atQ p.qs i.cl.toNat).1 (atQ p.qs i.cl.toNat).2 i).1 else p, (pushQ (atQ p.qs i.cl.toNat).1 (atQ p.qs i.cl.toNat).2 i).2.1, (pushQ (atQ p.qs i.cl.toNat).1 (atQ p.qs i.cl.toNat).2 i).2.2) := by
  unfold arriveS
  rw [if_neg (by simp [h])]
  simp only
  split <;> simp_all
theorem endS_bad {g : List Cm} (h : p.busy = false ∨ p.fin ≠ p.now) : endS p g = (p, g, 2) := by unfold endS; rw [if_pos h]
theorem endS_done {g : List Cm} (h : ¬ (p.busy = false ∨ p.fin ≠ p.now)) (hr : p.rest = 0) : endS p g = (idleS p, g ++ [⟨p.now, p.snd.it⟩], 0) := by unfold endS; rw [if_neg h, if_pos hr]
theorem endS_ret {g : List Cm} (h : ¬ (p.busy = false ∨ p.fin ≠ p.now)) (hr : ¬ p.rest = 0) :
    endS p g = (if (retQ (atQ p.qs p.snd.it.cl.toNat).1 (atQ p.qs p.snd.it.cl.toNat).2 ⟨p.snd.it, p.rest, true⟩).2 = 0 then setS (idleS p) p.snd.it.cl (retQ (atQ p.qs p.snd.it.cl.toNat).1 (atQ p.qs p.snd.it.cl.toNat).2 ⟨p.snd.it, p.rest, true⟩).1 else idleS p, g, (retQ (atQ p.qs p.snd.it.cl.toNat).1 (atQ p.qs p.snd.it.cl.toNat).2 ⟨p.snd.it, p.rest, true⟩).2) := by
  unfold endS
  rw [if_neg h, if_neg hr]
  simp only
  split <;> simp_all
theorem cmv_one (x : Cm) : ∀ u ∈ cmv x, u.oneCell' = true := by
  intro u hu
  simp only [cmv, List.mem_cons, List.not_mem_nil, or_false] at hu
  rcases hu with rfl | rfl | rfl | rfl | rfl | rfl <;> rfl
end Go.Po

/-
  A port, in plain terms: what stays when it chooses.
-/
namespace Go.Po
open Go Go.Eng Go.Gt Go.Proofs.Gt Go.Sw Go.Qu Go.Ch
variable {p : Ps}
theorem preemptS_keep : (preemptS p).1.qs = p.qs ∧ (preemptS p).1.l = p.l := by
  unfold preemptS
  split
  · exact ⟨rfl, rfl⟩
  · simp only
    split
    · exact ⟨rfl, rfl⟩
    · split <;> exact ⟨rfl, rfl⟩
theorem startS_len : (startS p).1.qs.length = p.qs.length ∧ (startS p).1.l = p.l := by
  unfold startS
  split
  · exact ⟨rfl, rfl⟩
  · simp only
    split
    · exact ⟨rfl, rfl⟩
    · split
      · exact ⟨rfl, rfl⟩
      · split
        · exact ⟨rfl, rfl⟩
        · exact ⟨by simp [setS, beginS], rfl⟩
theorem arriveS_len {x : It} : (arriveS p x).1.qs.length = p.qs.length ∧ (arriveS p x).1.l = p.l := by
  unfold arriveS
  split
  · exact ⟨rfl, rfl⟩
  · simp only
    split
    · exact ⟨rfl, rfl⟩
    · exact ⟨by simp [setS], rfl⟩
theorem endS_len {g : List Cm} : (endS p g).1.qs.length = p.qs.length ∧ (endS p g).1.l = p.l := by
  unfold endS
  split
  · exact ⟨rfl, rfl⟩
  · split
    · exact ⟨rfl, rfl⟩
    · simp only
      split
      · exact ⟨rfl, rfl⟩
      · exact ⟨by simp [setS, idleS], rfl⟩
theorem chooseS_a (h : (preemptS p).2 ≠ 0) : chooseS p = preemptS p := by unfold chooseS; rw [if_pos h]
theorem chooseS_b (h : (preemptS p).2 = 0) : chooseS p = startS (preemptS p).1 := by unfold chooseS; rw [if_neg (by simp [h])]
theorem chooseS_len : (chooseS p).1.qs.length = p.qs.length ∧ (chooseS p).1.l = p.l := by
  unfold chooseS
  split
  · exact ⟨by rw [preemptS_keep.1], preemptS_keep.2⟩
  · exact ⟨by rw [startS_len.1, preemptS_keep.1], by rw [startS_len.2, preemptS_keep.2]⟩
structure CS where
  i : Nat
  K : Know
  P : Ps
  B : Option Addr
  d : Nat
  ms : List Qm
def CI (p : Ps) (s : CS) : Prop := (s.i = 0 ∧ s.P = p) ∨ (s.i = 1 ∧ (preemptS p).2 = 0 ∧ s.P = (preemptS p).1) ∨ (s.i = 2 ∧ (preemptS p).2 = 0 ∧ (startS (preemptS p).1).2 = 0 ∧ s.P = (startS (preemptS p).1).1)
theorem CI.zero {s : CS} (h : CI p s) (h0 : s.i = 0) : s.P = p := by rcases h with h | h | h <;> first | (exfalso; omega) | exact h.2
theorem CI.one {s : CS} (h : CI p s) (h0 : s.i = 1) : (preemptS p).2 = 0 ∧ s.P = (preemptS p).1 := by rcases h with h | h | h <;> first | (exfalso; omega) | exact h.2
theorem CI.two {s : CS} (h : CI p s) (h0 : s.i = 2) : (preemptS p).2 = 0 ∧ (startS (preemptS p).1).2 = 0 ∧ s.P = (startS (preemptS p).1).1 := by rcases h with h | h | h <;> first | (exfalso; omega) | exact h.2
end Go.Po

/-
  A port, in plain terms: the exported functions, case by case.
-/
namespace Go.Po
open Go Go.Eng Go.Gt Go.Proofs.Gt Go.Sw Go.Qu Go.Ch
variable {p : Ps} {t : Int} {x : It}
theorem chooseA_bad (h : checkB p = false) : chooseA p t = (zeroP, 480) := by unfold chooseA; rw [if_pos h]
theorem chooseA_at (h : checkB p = true) (ha : atB p t = false) : chooseA p t = (zeroP, 2) := by unfold chooseA; rw [if_neg (by simp [h]), if_pos ha]
theorem chooseA_err (h : checkB p = true) (ha : atB p t = true) (he : (chooseS (stayS p t)).2 ≠ 0) : chooseA p t = (zeroP, (chooseS (stayS p t)).2) := by unfold chooseA; rw [if_neg (by simp [h]), if_neg (by simp [ha])]; simp only; rw [if_pos he]
theorem chooseA_ok (h : checkB p = true) (ha : atB p t = true) (he : ¬ (chooseS (stayS p t)).2 ≠ 0) : chooseA p t = ((chooseS (stayS p t)).1, 0) := by
  unfold chooseA; rw [if_neg (by simp [h]), if_neg (by simp [ha])]; simp only; rw [if_neg he]
  have h0 : (chooseS (stayS p t)).2 = 0 := by simpa using he
  rw [← h0]
theorem arriveA_bad (h : checkB p = false) : arriveA p t x = (zeroP, false, 480) := by unfold arriveA; rw [if_pos h]
theorem arriveA_at (h : checkB p = true) (ha : atB p t = false) : arriveA p t x = (zeroP, false, 2) := by unfold arriveA; rw [if_neg (by simp [h]), if_pos ha]
theorem arriveA_err (h : checkB p = true) (ha : atB p t = true) (he : (arriveS (stayS p t) x).2.2 ≠ 0) : arriveA p t x = (zeroP, false, (arriveS (stayS p t) x).2.2) := by unfold arriveA; rw [if_neg (by simp [h]), if_neg (by simp [ha])]; simp only; rw [if_pos he]
theorem arriveA_ok (h : checkB p = true) (ha : atB p t = true) (he : ¬ (arriveS (stayS p t) x).2.2 ≠ 0) : arriveA p t x = ((arriveS (stayS p t) x).1, (arriveS (stayS p t) x).2.1, 0) := by
  unfold arriveA; rw [if_neg (by simp [h]), if_neg (by simp [ha])]; simp only; rw [if_neg he]
  have h0 : (arriveS (stayS p t) x).2.2 = 0 := by simpa using he
  rw [← h0]
theorem endA_bad (h : checkB p = false) : endA p t = (zeroP, dIt, false, 480) := by unfold endA; rw [if_pos h]
theorem endA_at (h : checkB p = true) (ha : atB p t = false) : endA p t = (zeroP, dIt, false, 2) := by unfold endA; rw [if_neg (by simp [h]), if_pos ha]
theorem endA_err (h : checkB p = true) (ha : atB p t = true) (he : (endS (stayS p t) []).2.2 ≠ 0) : endA p t = (zeroP, dIt, false, (endS (stayS p t) []).2.2) := by unfold endA; rw [if_neg (by simp [h]), if_neg (by simp [ha])]; simp only; rw [if_pos he]
theorem endA_nil (h : checkB p = true) (ha : atB p t = true) (he : ¬ (endS (stayS p t) []).2.2 ≠ 0) (hn : (endS (stayS p t) []).2.1 = []) : endA p t = ((endS (stayS p t) []).1, dIt, false, 0) := by
  unfold endA; rw [if_neg (by simp [h]), if_neg (by simp [ha])]; simp only; rw [if_neg he, hn]
theorem endA_one (h : checkB p = true) (ha : atB p t = true) (he : ¬ (endS (stayS p t) []).2.2 ≠ 0) {g : Cm} {r : List Cm} (hn : (endS (stayS p t) []).2.1 = g :: r) : endA p t = ((endS (stayS p t) []).1, g.it, true, 0) := by
  unfold endA; rw [if_neg (by simp [h]), if_neg (by simp [ha])]; simp only; rw [if_neg he, hn]
theorem nextA_bad (h : checkB p = false) : nextA p = (0, 480) := by unfold nextA; rw [if_pos h]
theorem nextA_ok (h : checkB p = true) : nextA p = nextS p := by unfold nextA; rw [if_neg (by simp [h])]
theorem check_cl (h : checkB p = true) : p.busy = true → 0 ≤ p.snd.it.cl ∧ p.snd.it.cl ≤ 7 := fun hb => by
  have hs := (front_parts (check_parts h).1).2.2.2
  unfold sendOk at hs
  rw [if_neg (by simp [hb])] at hs
  simp only [Bool.and_eq_true] at hs
  have := okP_it hs.1.1
  unfold okI at this
  simp at this; omega
end Go.Po
namespace Go.Po
open Go Go.Eng
theorem rows_nil {α : Type} {enc : α → List Value} {sz : Nat} (he : ∀ x : α, (enc x).length = sz) (hz : 0 < sz) {xs : List α} (h : (rowsV enc xs).length = 0) : xs = [] := by
  rw [rowsV_len he] at h
  rcases Nat.mul_eq_zero.1 h with h | h
  · exact List.eq_nil_of_length_eq_zero h
  · omega
end Go.Po

/-
  A port, in plain terms: a new one.
-/
namespace Go.Po
open Go Go.Eng Go.Gt Go.Proofs.Gt Go.Sw Go.Qu Go.Ch
def startP (l : Ln) : Ps := ⟨l, 0, [], false, dPt, 0, 0, 0⟩
def newP (l : Ln) (cs : List Int) : Ps := ⟨l, 0, cs.map fun c => (c, []), false, dPt, 0, 0, 0⟩
def emptyM (c : Int) : Qm := ⟨c, none, 0, 0, []⟩
def newM (cs : List Int) (k : Nat) : List Qm := (cs.take k).map emptyM
theorem newM_succ {cs : List Int} {k : Nat} (hk : k < cs.length) : newM cs (k + 1) = newM cs k ++ [emptyM cs[k]] := by
  unfold newM; rw [List.take_succ_eq_append_getElem hk, List.map_append]; rfl
theorem newM_all {cs : List Int} {k : Nat} (hk : cs.length ≤ k) : newM cs k = cs.map emptyM := by unfold newM; rw [List.take_of_length_le hk]
theorem emptyM_k {F : Know} {c : Int} : QmK F (emptyM c) := ⟨rowsK_of ptv_len (by decide) (fun j u h => by cases h) rfl, Nat.le_refl _, Nat.zero_le _, Nat.zero_le _⟩
theorem new_k {F : Know} {l : Ln} {cs : List Int} {B : Option Addr} {m d : Nat} (hl : LnK F l) (hln : l.g.n ≤ l.g.cap) (hr : RowsK qmv 2 F B m (cs.map emptyM)) (h1 : m ≤ d) (h2 : d ≤ maxLen) : PsK F (newP l cs) B m d (cs.map emptyM) :=
  ⟨hl, ⟨hr, fun q hq => by obtain ⟨c, _, rfl⟩ := List.mem_map.1 hq; exact emptyM_k⟩, by rw [List.map_map]; rfl, h1, h2, hln⟩
theorem newS_line {l : Ln} {cs : List Int} (h : okL l = false) : newS l cs = (zeroP, 471) := by unfold newS; rw [if_pos h]
theorem newS_len {l : Ln} {cs : List Int} (h : okL l = true) (hn : cs.length ≠ 8) : newS l cs = (zeroP, 2) := by unfold newS; rw [if_neg (by simp [h]), if_pos hn]
theorem newS_bad {l : Ln} {cs : List Int} (h : okL l = true) (hn : cs.length = 8) {k : Nat} (hk : k < cs.length) (hb : ¬ (0 ≤ cs[k] ∧ cs[k] ≤ 65536)) : newS l cs = (zeroP, 2) := by
  unfold newS; rw [if_neg (by simp [h]), if_neg (by simp [hn]), if_neg]
  intro hall
  rw [List.all_eq_true] at hall
  have := hall _ (List.getElem_mem hk)
  simp at this; omega
theorem newS_ok {l : Ln} {cs : List Int} (h : okL l = true) (hn : cs.length = 8) (ha : ∀ i (hi : i < cs.length), 0 ≤ cs[i] ∧ cs[i] ≤ 65536) : newS l cs = (newP l cs, 0) := by
  unfold newS; rw [if_neg (by simp [h]), if_neg (by simp [hn]), if_pos]
  · rfl
  · rw [List.all_eq_true]
    intro c hc
    obtain ⟨i, hi, rfl⟩ := List.getElem_of_mem hc
    exact decide_eq_true (ha i hi)
theorem qmv_one' (ms : List Qm) : ∀ u ∈ rowsV qmv ms, u.oneCell' = true := by
  intro u hu
  obtain ⟨q, _, h⟩ := List.mem_flatMap.1 hu
  simp only [qmv, List.mem_cons, List.not_mem_nil, or_false] at h
  rcases h with rfl | rfl <;> rfl
structure NS where
  k : Nat
  A : Option Addr
  cp : Nat
  b : Own
end Go.Po

/-
  A port, in plain terms: a run, round by round.
-/
namespace Go.Po
open Go Go.Eng Go.Gt Go.Proofs.Gt Go.Sw Go.Qu Go.Ch
structure RS where
  p : Ps
  A : Option Addr
  n : Nat
  cp : Nat
  l : List Cm
  g : List Cm
def timeR (s : RS) : Int × Int := match s.l with
  | [] => nextS s.p
  | c :: _ => if (nextS s.p).2 ≠ 0 ∨ c.at_ < (nextS s.p).1 then (c.at_, 0) else nextS s.p
def goR (until_ : Int) (s : RS) : Bool := decide ((timeR s).2 = 0 ∧ (timeR s).1 ≤ until_)
def tmR (s : RS) : Int := (timeR s).1
def cntL (t : Int) : List Cm → Nat
  | [] => 0
  | c :: r => if c.at_ = t then cntL t r + 1 else 0
def cntR (s : RS) : Nat := cntL (tmR s) s.l
def endR (p : Ps) (g : List Cm) (t : Int) : Ps × List Cm := if p.busy = true ∧ p.fin = t then ((endS p g).1, (endS p g).2.1) else (p, g)
def comeR (p : Ps) (l : List Cm) : Ps := l.foldl (fun p c => (arriveS p c.it).1) p
def bodyR (p : Ps) (g : List Cm) (t : Int) (come : List Cm) : Ps × List Cm := ((chooseS (comeR (endR (stayS p t) g t).1 come)).1, (endR (stayS p t) g t).2)
def stepR (s : RS) : RS :=
  ⟨(bodyR s.p s.g (tmR s) (s.l.take (cntR s))).1, if s.cp = cntR s then s.A else s.A.map (·.add (cntR s * 6)), s.n - cntR s, s.cp - cntR s, s.l.drop (cntR s), (bodyR s.p s.g (tmR s) (s.l.take (cntR s))).2⟩
def stR (s0 : RS) : Nat → RS
  | 0 => s0
  | k + 1 => stepR (stR s0 k)
theorem cntL_le (t : Int) : ∀ l : List Cm, cntL t l ≤ l.length
  | [] => Nat.le_refl _
  | c :: r => by
    unfold cntL
    split
    · have := cntL_le t r; simp; omega
    · exact Nat.zero_le _
structure RK (F : Know) (s : RS) : Prop where
  rows : RowsK cmv 6 F s.A s.n s.l
  cap : s.n ≤ s.cp
  small : s.n ≤ 4611686018427387904
theorem RK.step {F : Know} {s : RS} (h : RK F s) : RK F (stepR s) := by
  have hc : cntR s ≤ s.n := by rw [h.rows.len]; exact cntL_le _ _
  exact ⟨h.rows.from (cntR s) hc h.cap, by show s.n - cntR s ≤ s.cp - cntR s; have := h.cap; omega, by show s.n - cntR s ≤ _; have := h.small; omega⟩
theorem RK.all {F : Know} {s0 : RS} (h : RK F s0) : ∀ k, RK F (stR s0 k)
  | 0 => h
  | k + 1 => (RK.all h k).step
theorem cntL_is {t : Int} : ∀ (l : List Cm) (k : Nat), k ≤ l.length → (∀ j (h : j < l.length), j < k → l[j].at_ = t) → (∀ h : k < l.length, l[k].at_ ≠ t) → cntL t l = k
  | [], k, h, _, _ => by simp at h; subst h; rfl
  | c :: r, 0, _, _, h2 => by
    have h3 : ¬ c.at_ = t := h2 (by simp)
    unfold cntL; rw [if_neg h3]
  | c :: r, k + 1, h, h1, h2 => by
    have h0 : c.at_ = t := h1 0 (by simp) (by omega)
    unfold cntL
    rw [if_pos h0, cntL_is r k (by simpa using h) (fun j hj hk => h1 (j + 1) (by simp; omega) (by omega)) (fun hk => h2 (by simp; omega))]
def yldR (s0 : RS) (M : Nat) : List (List Value) := (List.range M).map fun k => [.int .i64 (tmR (stR s0 k)), .slice (stR s0 k).A (cntR (stR s0 k)) (cntR (stR s0 k))]
theorem yldR_len (s0 : RS) (M : Nat) : (yldR s0 M).length = M := by simp [yldR]
structure SeeP (F : Know) (g : Nat) (s : RS) : Prop where
  port : ∃ B d G kk gk ms, (∀ j, j < 18 → F ((⟨g, 0, none⟩ : Addr).add j) = (pev s.p B 8 d G kk gk)[j]?) ∧ PsK F s.p B 8 d ms ∧ s.p.qs.length = 8
theorem time_nil {s : RS} (h : s.l = []) : timeR s = nextS s.p := by unfold timeR; rw [h]
theorem time_come {s : RS} {c : Cm} {r : List Cm} (h : s.l = c :: r) (hc : (nextS s.p).2 ≠ 0 ∨ c.at_ < (nextS s.p).1) : timeR s = (c.at_, 0) := by unfold timeR; rw [h]; simp only; rw [if_pos hc]
theorem time_next {s : RS} {c : Cm} {r : List Cm} (h : s.l = c :: r) (hc : ¬ ((nextS s.p).2 ≠ 0 ∨ c.at_ < (nextS s.p).1)) : timeR s = nextS s.p := by unfold timeR; rw [h]; simp only; rw [if_neg hc]
end Go.Po

/-
  A port, in plain terms: what stays in a round.
-/
namespace Go.Po
open Go Go.Eng Go.Gt Go.Proofs.Gt Go.Sw Go.Qu Go.Ch
def ClOk (p : Ps) : Prop := p.busy = true → 0 ≤ p.snd.it.cl ∧ p.snd.it.cl ≤ 7
theorem pop_cl {cap : Int} {ps : List Pt} : 0 ≤ (popQ cap ps).2.1.it.cl ∧ (popQ cap ps).2.1.it.cl ≤ 7 := by
  unfold popQ
  split
  · exact ⟨by decide, by decide⟩
  · rename_i h
    split
    · exact ⟨by decide, by decide⟩
    · have hr : rightQ cap ps = true := by simpa using h
      unfold rightQ at hr
      simp only [Bool.and_eq_true] at hr
      have := okP_it (valid_bd hr.1.2 (k := 0) (by omega))
      unfold okI at this
      simp at this ⊢; omega
variable {p : Ps}
theorem ClOk.stay {t : Int} (h : ClOk p) : ClOk (stayS p t) := h
theorem ClOk.end_ {g : List Cm} (h : ClOk p) : ClOk (endS p g).1 := by
  unfold endS
  split
  · exact h
  · split
    · exact fun hb => by cases hb
    · simp only
      split
      · exact fun hb => by cases hb
      · exact fun hb => by cases hb
theorem ClOk.arrive {x : It} (h : ClOk p) : ClOk (arriveS p x).1 := by
  unfold arriveS
  split
  · exact h
  · simp only
    split
    · exact h
    · exact h
theorem ClOk.pre (h : ClOk p) : ClOk (preemptS p).1 := by
  unfold preemptS
  split
  · exact h
  · simp only
    split
    · exact h
    · split <;> exact h
theorem ClOk.start (h : ClOk p) : ClOk (startS p).1 := by
  unfold startS
  split
  · exact h
  · simp only
    split
    · exact h
    · split
      · exact h
      · split
        · exact fun _ => pop_cl
        · exact fun _ => pop_cl
theorem ClOk.choose (h : ClOk p) : ClOk (chooseS p).1 := by
  unfold chooseS
  split
  · exact h.pre
  · exact h.pre.start
theorem ClOk.come : ∀ {l : List Cm} {p : Ps}, ClOk p → ClOk (comeR p l)
  | [], _, h => h
  | _ :: r, _, h => ClOk.come (l := r) h.arrive
theorem come_succ {P : Ps} {l : List Cm} {i : Nat} (h : i < l.length) : comeR P (l.take (i + 1)) = (arriveS (comeR P (l.take i)) l[i].it).1 := by
  unfold comeR
  rw [List.take_succ_eq_append_getElem h, List.foldl_append]; rfl
theorem endR_yes {p : Ps} {g : List Cm} {t : Int} (h1 : p.busy = true) (h2 : p.fin = t) : endR p g t = ((endS p g).1, (endS p g).2.1) := by unfold endR; rw [if_pos ⟨h1, h2⟩]
theorem endR_no {p : Ps} {g : List Cm} {t : Int} (h : ¬ (p.busy = true ∧ p.fin = t)) : endR p g t = (p, g) := by unfold endR; rw [if_neg h]
theorem endS_gone {p : Ps} {g : List Cm} : (endS p g).2.1.length ≤ g.length + 1 := by
  unfold endS
  split
  · simp
  · split
    · simp
    · simp only
      split <;> simp
theorem RK.mono {F F' : Know} {s : RS} (h : RK F s) (hF : Incl F F') : RK F' s := ⟨h.rows.mono hF, h.cap, h.small⟩
def lastC (a : Int) (l : List Cm) : Nat → Int
  | 0 => a
  | k + 1 => match l[k]? with
    | none => 0
    | some c => c.at_
theorem lastC_succ {a : Int} {l : List Cm} {k : Nat} (h : k < l.length) : lastC a l (k + 1) = l[k].at_ := by
  show (match l[k]? with | none => 0 | some c => c.at_) = _
  rw [List.getElem?_eq_getElem h]
def ComeOk (a u : Int) (l : List Cm) : Prop := ∀ i (h : i < l.length), okI l[i].it = true ∧ lastC a l i ≤ l[i].at_ ∧ l[i].at_ ≤ u
structure QS where
  K : Know
  P : Ps
  gs : List Cm
  B : Option Addr
  d : Nat
  ms : List Qm
  G : Option Addr
  kk : Nat
  gk : Nat
  b : Own
structure AS where
  i : Nat
  K : Know
  P : Ps
  B : Option Addr
  d : Nat
  ms : List Qm
theorem stR_p {s0 : RS} {k : Nat} : (stR s0 (k + 1)).p = (bodyR (stR s0 k).p (stR s0 k).g (tmR (stR s0 k)) ((stR s0 k).l.take (cntR (stR s0 k)))).1 := rfl
theorem stR_g {s0 : RS} {k : Nat} : (stR s0 (k + 1)).g = (endR (stayS (stR s0 k).p (tmR (stR s0 k))) (stR s0 k).g (tmR (stR s0 k))).2 := rfl
end Go.Po

/-
  A port, in plain terms: what the statements are about.
-/
namespace Go.Po
open Go Go.Eng Go.Gt Go.Proofs.Gt Go.Sw Go.Qu Go.Ch
def frameI (c z : Int) : It := ⟨0, 0, c, z, 0⟩
def opE : Ents := [(255, 1)]
def opL (A : Option Addr) (n cap : Nat) (per : Int) : Ln := ⟨⟨A, n, cap, opE, 1⟩, per, 0⟩
def eqI (a b : It) : Bool := (a.st == b.st) && ((a.sq == b.sq) && ((a.cl == b.cl) && ((a.sz == b.sz) && (a.sn == b.sn))))
structure SameP (p p2 : Ps) : Prop where
  es : p2.l.g.es = p.l.g.es
  cyc : p2.l.g.cyc = p.l.g.cyc
  per : p2.l.per = p.l.per
  sh : p2.l.sh = p.l.sh
  now : p2.now = p.now
  qs : p2.qs = p.qs
  busy : p2.busy = p.busy
  snd : p2.snd = p.snd
  began : p2.began = p.began
  fin : p2.fin = p.fin
  rest : p2.rest = p.rest
theorem SameP.refl (p : Ps) : SameP p p := ⟨rfl, rfl, rfl, rfl, rfl, rfl, rfl, rfl, rfl, rfl, rfl⟩
end Go.Po

/-
  A port, in plain terms: examples.
-/
namespace Go.Po
open Go Go.Eng Go.Gt Go.Proofs.Gt Go.Sw Go.Qu Go.Ch
def fA : It := frameI 2 200
def fB : It := frameI 6 100
def comeW : List Cm := [⟨0, fA⟩, ⟨50, fB⟩]
def goneW : List Cm := [⟨188, fB⟩, ⟨348, fA⟩]
def capsW : List Int := List.replicate 8 1000
def pW0 (l : Ln) : Ps := (newS l capsW).1
def pW1 (l : Ln) : Ps := (arriveA (pW0 l) 0 fA).1
def pW2 (l : Ln) : Ps := (chooseA (pW1 l) 0).1
end Go.Po
namespace Go.Po
open Go Go.Eng Go.Gt Go.Proofs.Gt Go.Sw Go.Qu Go.Ch
theorem goR_all {u : Int} {s : RS} {M : Nat} (h : ((List.range M).all fun i => goR u (stR s i)) = true) : ∀ k, k < M → goR u (stR s k) = true := fun k hk => by
  rw [List.all_eq_true] at h
  exact h k (List.mem_range.2 hk)
def comeB (a u : Int) (l : List Cm) : Bool := (List.range l.length).all fun i => match l[i]? with
  | none => true
  | some c => okI c.it && decide (lastC a l i ≤ c.at_ ∧ c.at_ ≤ u)
theorem comeOk_of {a u : Int} {l : List Cm} (h : comeB a u l = true) : ComeOk a u l := fun i hi => by
  unfold comeB at h
  rw [List.all_eq_true] at h
  have := h i (List.mem_range.2 hi)
  rw [List.getElem?_eq_getElem hi] at this
  simp only [Bool.and_eq_true, decide_eq_true_eq] at this
  exact this
theorem psv_inj {p : Ps} {B B' : Option Addr} {m m' d d' : Nat} (h : Value.agg (psv p B m d).toArray = .agg (psv p B' m' d').toArray) : B = B' ∧ m = m' ∧ d = d' := by
  simp [psv] at h
  exact h
theorem run_inj {p : Ps} {B B' G G' : Option Addr} {m m' d d' k k' gk gk' : Nat} {e : Value} (h : Value.tuple [Value.agg (psv p B m d).toArray, .slice G k gk, e].toArray = .tuple [.agg (psv p B' m' d').toArray, .slice G' k' gk', e].toArray) : (B = B' ∧ m = m' ∧ d = d') ∧ G = G' ∧ k = k' ∧ gk = gk' := by
  have h2 : [Value.agg (psv p B m d).toArray, .slice G k gk, e] = [.agg (psv p B' m' d').toArray, .slice G' k' gk', e] := by
    injection h with h; injection h
  injection h2 with h3 h4
  injection h4 with h5 h6
  injection h5 with h7 h8 h9
  exact ⟨psv_inj h3, h7, h8, h9⟩
theorem tup_inj {p : Ps} {B B' : Option Addr} {m m' d d' : Nat} {r : List Value} (h : Value.tuple (Value.agg (psv p B m d).toArray :: r).toArray = .tuple (.agg (psv p B' m' d').toArray :: r).toArray) : B = B' ∧ m = m' ∧ d = d' := by
  have h2 : (Value.agg (psv p B m d).toArray :: r) = (.agg (psv p B' m' d').toArray :: r) := by
    injection h with h; injection h
  injection h2 with h3 h4
  exact psv_inj h3
end Go.Po
namespace Go.Po
open Go Go.Eng Go.Gt Go.Proofs.Gt Go.Sw Go.Qu Go.Ch
structure RS.Eq (a b : RS) : Prop where
  p : a.p = b.p
  l : a.l = b.l
  g : a.g = b.g
theorem timeR_eq {a b : RS} (h : RS.Eq a b) : timeR a = timeR b := by unfold timeR; rw [h.l, h.p]
theorem goR_eq {a b : RS} {u : Int} (h : RS.Eq a b) : goR u a = goR u b := by unfold goR; rw [timeR_eq h]
theorem stepR_eq {a b : RS} (h : RS.Eq a b) : RS.Eq (stepR a) (stepR b) := by
  have ht : tmR a = tmR b := by unfold tmR; rw [timeR_eq h]
  have hc : cntR a = cntR b := by unfold cntR; rw [ht, h.l]
  exact ⟨by show (bodyR a.p a.g (tmR a) (a.l.take (cntR a))).1 = _; rw [h.p, h.g, ht, h.l, hc]; rfl, by show a.l.drop (cntR a) = _; rw [h.l, hc]; rfl, by show (bodyR a.p a.g (tmR a) (a.l.take (cntR a))).2 = _; rw [h.p, h.g, ht, h.l, hc]; rfl⟩
theorem stR_eq {a b : RS} (h : RS.Eq a b) : ∀ k, RS.Eq (stR a k) (stR b k)
  | 0 => h
  | k + 1 => stepR_eq (stR_eq h k)
def trS (p : Ps) (l : List Cm) : RS := ⟨p, none, 0, 0, l, []⟩
theorem tr_eq {p : Ps} {A : Option Addr} {n c : Nat} {l : List Cm} (k : Nat) : RS.Eq (stR ⟨p, A, n, c, l, []⟩ k) (stR (trS p l) k) := stR_eq (a := ⟨p, A, n, c, l, []⟩) (b := trS p l) ⟨rfl, rfl, rfl⟩ k
end Go.Po
namespace Go.Po
open Go Go.Eng Go.Gt Go.Proofs.Gt Go.Sw Go.Qu Go.Ch
def sW (l : Ln) : RS := trS (pW0 l) comeW
end Go.Po

/-
  A port, in plain terms: the chapter's examples.
-/
namespace Go.Po
open Go Go.Eng Go.Gt Go.Proofs.Gt Go.Sw Go.Qu Go.Ch
variable (l : Ln)
def pK3 : Ps := (arriveA (pW2 l) 50 fB).1
def pK4 : Ps := (chooseA (pK3 l) 50).1
def pK5 : Ps := (endA (pK4 l) 88).1
def pK6 : Ps := (chooseA (pK5 l) 88).1
def pK7 : Ps := (endA (pK6 l) 188).1
def pK8 : Ps := (chooseA (pK7 l) 188).1
def pK9 : Ps := (endA (pK8 l) 348).1
def restP : Pt := ⟨frameI 0 200, 160, true⟩
def bent (p : Ps) (k : Nat) : Ps := match k with
  | 0 => { p with fin := 87 }
  | 1 => { p with rest := 161 }
  | 2 => { p with began := 1 }
  | 3 => { p with now := 89 }
  | 4 => { p with snd := { p.snd with left := 199 } }
  | _ => { p with qs := p.qs.set 0 ((atQ p.qs 0).1, [restP]) }
end Go.Po
