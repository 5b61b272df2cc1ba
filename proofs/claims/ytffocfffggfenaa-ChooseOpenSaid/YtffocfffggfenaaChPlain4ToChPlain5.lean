/-
  The texts ChPlain4 to ChPlain5, one after the other.
-/
import Derived.Test.YtffocfffggfenaaChPlain3
/-
  Choosing a queue, in plain terms: bounds of the heads, and who starts.
-/
namespace Go.Ch
open Go Go.Eng Go.Gt Go.Proofs.Gt Go.Sw Go.Qu
theorem noneP_left {p : Pt} (h : noneP p = true) : p.left = 0 := by
  unfold noneP at h; simp at h; exact h.2.1
theorem noneP_rest {p : Pt} (h : noneP p = true) : p.rest = false := by
  unfold noneP at h; simp at h; exact h.2.2
theorem okAtH_left {c : Nat} {p : Pt} (h : okAtH c p = true) : 0 ≤ p.left ∧ p.left ≤ 1542 := by
  unfold okAtH at h
  cases e : noneP p with
  | true => rw [noneP_left e]; omega
  | false =>
    rw [e] at h; simp at h
    have := okP_bd h.1; omega
theorem okH_left {hs : List Pt} (h : okH hs = true) {c : Int} (hc : 0 ≤ c ∧ c ≤ 7) : 0 ≤ (atP hs c.toNat).left ∧ (atP hs c.toNat).left ≤ 1542 :=
  okAtH_left ((okH_parts h).2.1 c.toNat (by omega))
theorem okH_pos {hs : List Pt} (h : okH hs = true) {c : Int} (hc : 0 ≤ c ∧ c ≤ 7) (hn : noneP (atP hs c.toNat) = false) : 84 ≤ (atP hs c.toNat).left ∧ (atP hs c.toNat).left ≤ 1542 := by
  have := (okH_parts h).2.1 c.toNat (by omega)
  unfold okAtH at this
  rw [hn] at this
  simp at this
  exact okP_bd this.1
theorem okL_parts {l : Ln} (h : okL l = true) : okG l.g.es l.g.cyc = true ∧ (1 ≤ l.per ∧ l.per ≤ 1000) ∧ (-1000 ≤ l.sh ∧ l.sh ≤ 1000) := by
  unfold okL at h; simp at h; exact ⟨h.1, ⟨h.2.1, h.2.2.1⟩, h.2.2.2⟩
theorem errC_zero {l : Ln} {hs : List Pt} {t : Int} (h : errC l hs t = 0) : okL l = true ∧ okH hs = true ∧ (0 ≤ t ∧ t ≤ 549755813888) := by
  unfold errC at h; grind
theorem errC_rng (l : Ln) (hs : List Pt) (t : Int) : errC l hs t = 0 ∨ errC l hs t = 2 ∨ errC l hs t = 470 ∨ errC l hs t = 471 := by
  unfold errC; grind
/-- The answers of the exported functions. -/
def mayA (l : Ln) (hs : List Pt) (c t : Int) : Bool × Int := if errC l hs t ≠ 0 then (false, errC l hs t) else if 0 ≤ c ∧ c ≤ 7 then (mayC l hs c t, 0) else (false, 2)
/-- The class that starts: the greatest one that may. -/
def startL (l : Ln) (hs : List Pt) (t : Int) : Option Int := (classL hs).find? fun c => fitC l hs c t
def orE : Option Int → Int × Int
  | some x => (x, 0)
  | none => (0, 4)
def startA (l : Ln) (hs : List Pt) (t : Int) : Int × Int := if errC l hs t ≠ 0 then (0, errC l hs t) else orE (startL l hs t)
theorem classL_rng {hs : List Pt} {c : Int} (h : c ∈ classL hs) : (0 ≤ c ∧ c ≤ 7) ∧ waitC hs c = true := by
  unfold classL at h
  rw [List.mem_filter] at h
  refine ⟨?_, h.2⟩
  have := h.1
  simp [downL] at this
  omega
/-- The class that a loop from above finds. -/
def fromC (l : Ln) (hs : List Pt) (t : Int) : Nat → Option Int
  | 0 => none
  | n + 1 => if mayC l hs n t then some (n : Int) else fromC l hs t n
theorem find_down (l : Ln) (hs : List Pt) (t : Int) : ∀ n, (((downL n).filter (waitC hs)).find? fun c => fitC l hs c t) = fromC l hs t n
  | 0 => rfl
  | n + 1 => by
    show (List.filter (waitC hs) ((n : Int) :: downL n)).find? _ = _
    rw [fromC, ← find_down l hs t n]
    cases h : waitC hs n with
    | false => rw [List.filter_cons_of_neg (by simp [h])]; simp [mayC, h]
    | true =>
      rw [List.filter_cons_of_pos h]
      cases h2 : fitC l hs n t <;> simp [mayC, h, h2]
theorem startL_eq (l : Ln) (hs : List Pt) (t : Int) : startL l hs t = fromC l hs t 8 := find_down l hs t 8
end Go.Ch

/-
  Choosing a queue, in plain terms: the least time, and the preemption.
-/
namespace Go.Ch
open Go Go.Eng Go.Gt Go.Proofs.Gt Go.Sw Go.Qu
/-- The least of the results without an error, step by step. -/
def minS (o : Option Int) (p : Int × Int) : Option Int :=
  if p.2 = 0 then (match o with | none => some p.1 | some b => if p.1 < b then some p.1 else some b) else o
def lstK (xs : List (Int × Int)) (k : Nat) : Option Int := (xs.take k).foldl minS none
theorem lstK_zero (xs : List (Int × Int)) : lstK xs 0 = none := rfl
theorem lstK_succ {xs : List (Int × Int)} {k : Nat} (h : k < xs.length) : lstK xs (k + 1) = minS (lstK xs k) xs[k] := by
  unfold lstK
  rw [List.take_succ_eq_append_getElem h, List.foldl_append]; rfl
theorem lstK_all {xs : List (Int × Int)} : lstK xs xs.length = xs.foldl minS none := by unfold lstK; rw [List.take_length]
/-- A least one. -/
def Lst (P : Int → Prop) : Option Int → Prop
  | none => ∀ n, ¬ P n
  | some n => P n ∧ ∀ m, P m → n ≤ m
theorem Lst.uni {P Q : Int → Prop} {a b : Option Int} (ha : Lst P a) (hb : Lst Q b) (h : ∀ n, P n ↔ Q n) : a = b := by
  cases a with
  | none =>
    cases b with
    | none => rfl
    | some b => exact absurd ((h b).2 hb.1) (ha b)
  | some a =>
    cases b with
    | none => exact absurd ((h a).1 ha.1) (hb a)
    | some b =>
      have h1 := ha.2 b ((h b).2 hb.1)
      have h2 := hb.2 a ((h a).1 ha.1)
      have : a = b := by omega
      rw [this]
theorem Lst.step {P Q : Int → Prop} {o : Option Int} {p : Int × Int} (h : Lst P o) (hQ : ∀ n, Q n ↔ P n ∨ (p.2 = 0 ∧ p.1 = n)) : Lst Q (minS o p) := by
  unfold minS
  split
  · rename_i h0
    cases o with
    | none =>
      refine ⟨(hQ _).2 (.inr ⟨h0, rfl⟩), fun m hm => ?_⟩
      rcases (hQ m).1 hm with h1 | ⟨_, h1⟩
      · exact absurd h1 (h m)
      · omega
    | some b =>
      show Lst Q (if p.1 < b then some p.1 else some b)
      split
      · refine ⟨(hQ _).2 (.inr ⟨h0, rfl⟩), fun m hm => ?_⟩
        rcases (hQ m).1 hm with h1 | ⟨_, h1⟩
        · have := h.2 m h1; omega
        · omega
      · refine ⟨(hQ _).2 (.inl h.1), fun m hm => ?_⟩
        rcases (hQ m).1 hm with h1 | ⟨_, h1⟩
        · exact h.2 m h1
        · omega
  · rename_i h0
    have hPQ : ∀ n, Q n ↔ P n := fun n => ⟨fun hn => ((hQ n).1 hn).elim id fun h1 => absurd h1.1 h0, fun hn => (hQ n).2 (.inl hn)⟩
    cases o with
    | none => exact fun n hn => h n ((hPQ n).1 hn)
    | some b => exact ⟨(hPQ b).2 h.1, fun m hm => h.2 m ((hPQ m).1 hm)⟩
theorem Lst.fold {Q : Int → Prop} : ∀ (xs : List (Int × Int)) (P : Int → Prop) (o : Option Int), Lst P o → (∀ n, Q n ↔ P n ∨ ∃ p, p ∈ xs ∧ p.2 = 0 ∧ p.1 = n) → Lst Q (xs.foldl minS o)
  | [], P, o, h, hQ => by
    have : ∀ n, Q n ↔ P n := fun n => by rw [hQ n]; simp
    cases o with
    | none => exact fun n hn => h n ((this n).1 hn)
    | some b => exact ⟨(this b).2 h.1, fun m hm => h.2 m ((this m).1 hm)⟩
  | p :: r, P, o, h, hQ => by
    refine Lst.fold r (fun n => P n ∨ (p.2 = 0 ∧ p.1 = n)) _ (h.step fun n => Iff.rfl) fun n => ?_
    rw [hQ n]
    constructor
    · rintro (h1 | ⟨q, hq, h1⟩)
      · exact .inl (.inl h1)
      · rcases List.mem_cons.1 hq with rfl | hq
        · exact .inl (.inr h1)
        · exact .inr ⟨q, hq, h1⟩
    · rintro ((h1 | h1) | ⟨q, hq, h1⟩)
      · exact .inl h1
      · exact .inr ⟨p, .head _, h1⟩
      · exact .inr ⟨q, .tail _ hq, h1⟩
/-- The time at which one class fits, of the port and of the line. -/
def fitN (l : Ln) (hs : List Pt) (t c : Int) : Int × Int := fitA l.g.es l.g.cyc c (t + l.sh) (longC l hs c)
def whenF (l : Ln) (hs : List Pt) (t c : Int) : Int × Int := ((fitN l hs t c).1 - l.sh, (fitN l hs t c).2)
def whenXs (l : Ln) (hs : List Pt) (t : Int) : List (Int × Int) := (classL hs).map (whenF l hs t)
def whenL (l : Ln) (hs : List Pt) (t : Int) : Option Int := (whenXs l hs t).foldl minS none
def whenA (l : Ln) (hs : List Pt) (t : Int) : Int × Int := if errC l hs t ≠ 0 then (0, errC l hs t) else orE (whenL l hs t)
def upK (l : Ln) (hs : List Pt) (t : Int) : Nat → Option Int
  | 0 => none
  | c + 1 => if waitC hs c then minS (upK l hs t c) (whenF l hs t c) else upK l hs t c
/-- What the least time is the least of. -/
def WhP (l : Ln) (hs : List Pt) (t n : Int) : Prop := ∃ c : Int, (0 ≤ c ∧ c ≤ 7) ∧ waitC hs c = true ∧ (whenF l hs t c).2 = 0 ∧ (whenF l hs t c).1 = n
theorem mem_downL {c : Int} : c ∈ downL 8 ↔ 0 ≤ c ∧ c ≤ 7 := by simp [downL]; omega
theorem whenL_lst (l : Ln) (hs : List Pt) (t : Int) : Lst (WhP l hs t) (whenL l hs t) := by
  refine Lst.fold (whenXs l hs t) (fun _ => False) none (fun _ h => h) fun n => ?_
  rw [false_or]
  constructor
  · rintro ⟨c, hc, h1, h2, h3⟩
    exact ⟨_, List.mem_map.2 ⟨c, List.mem_filter.2 ⟨mem_downL.2 hc, h1⟩, rfl⟩, h2, h3⟩
  · rintro ⟨p, hp, h2, h3⟩
    obtain ⟨c, hc, rfl⟩ := List.mem_map.1 hp
    obtain ⟨h4, h5⟩ := classL_rng hc
    exact ⟨c, h4, h5, h2, h3⟩
theorem upK_lst (l : Ln) (hs : List Pt) (t : Int) : ∀ k : Nat, Lst (fun n => ∃ c : Nat, c < k ∧ waitC hs c = true ∧ (whenF l hs t c).2 = 0 ∧ (whenF l hs t c).1 = n) (upK l hs t k)
  | 0 => fun n => by rintro ⟨c, hc, _⟩; omega
  | k + 1 => by
    have ih := upK_lst l hs t k
    unfold upK
    split
    · rename_i hw
      refine ih.step fun n => ?_
      constructor
      · rintro ⟨c, hc, h⟩
        by_cases e : c = k
        · subst e; exact .inr h.2
        · exact .inl ⟨c, by omega, h⟩
      · rintro (⟨c, hc, h⟩ | h)
        · exact ⟨c, by omega, h⟩
        · exact ⟨k, by omega, hw, h⟩
    · rename_i hw
      have h1 : ∀ n, (∃ c : Nat, c < k + 1 ∧ waitC hs c = true ∧ (whenF l hs t c).2 = 0 ∧ (whenF l hs t c).1 = n) ↔ (∃ c : Nat, c < k ∧ waitC hs c = true ∧ (whenF l hs t c).2 = 0 ∧ (whenF l hs t c).1 = n) := by
        intro n
        constructor
        · rintro ⟨c, hc, h⟩
          by_cases e : c = k
          · subst e; exact absurd h.1 hw
          · exact ⟨c, by omega, h⟩
        · rintro ⟨c, hc, h⟩; exact ⟨c, by omega, h⟩
      cases e : upK l hs t k with
      | none => rw [e] at ih; exact fun n hn => ih n ((h1 n).1 hn)
      | some b => rw [e] at ih; exact ⟨(h1 b).2 ih.1, fun m hm => ih.2 m ((h1 m).1 hm)⟩
theorem upK_eq (l : Ln) (hs : List Pt) (t : Int) : upK l hs t 8 = whenL l hs t := by
  refine (upK_lst l hs t 8).uni (whenL_lst l hs t) fun n => ?_
  constructor
  · rintro ⟨c, hc, h⟩; exact ⟨c, by omega, h⟩
  · rintro ⟨c, hc, h⟩
    obtain ⟨k, rfl⟩ : ∃ k : Nat, c = (k : Int) := ⟨c.toNat, by omega⟩
    exact ⟨k, by omega, h⟩
/-- The preemption. -/
def preK (l : Ln) (b t : Int) : Int := max 64 ((t - b + l.per - 1) / l.per)
def preE (l : Ln) (b t : Int) : Int := b + (preK l b t + 24) * l.per
def preR (l : Ln) (o b t : Int) : Int := o - preK l b t + 24
def preB (l : Ln) (hs : List Pt) (o b t : Int) : Bool := decide (64 ≤ o - preK l b t) && (mayC l hs 6 (preE l b t) || mayC l hs 7 (preE l b t))
def argP (l : Ln) (o b t : Int) : Bool := decide (84 ≤ o ∧ o ≤ 1542 ∧ 0 ≤ b ∧ b ≤ t ∧ t ≤ b + o * l.per)
def preA (l : Ln) (hs : List Pt) (o b t : Int) : Int × Int × Int :=
  if errC l hs t ≠ 0 then (0, 0, errC l hs t) else if argP l o b t then (if preB l hs o b t then (preE l b t, preR l o b t, 0) else (0, 0, 4)) else (0, 0, 2)
theorem mul_le2 {a b p : Int} (h : a ≤ b) (hp : 0 ≤ p) : a * p ≤ b * p := Int.mul_le_mul_of_nonneg_right h hp
/-- The rounded quotient: bounds. -/
theorem ceil_bd {x o p : Int} (hp : 1 ≤ p) (hx : 0 ≤ x) (hxo : x ≤ o * p) : 0 ≤ (x + p - 1) / p ∧ (x + p - 1) / p ≤ o ∧ x ≤ (x + p - 1) / p * p ∧ (x + p - 1) / p * p < x + p := by
  have h1 := Int.mul_ediv_add_emod (x + p - 1) p
  have h2 := Int.emod_nonneg (x + p - 1) (show p ≠ 0 by omega)
  have h3 := Int.emod_lt_of_pos (x + p - 1) (show 0 < p by omega)
  have h4 : p * ((x + p - 1) / p) = (x + p - 1) / p * p := Int.mul_comm _ _
  have h5 : 0 ≤ (x + p - 1) / p := Int.ediv_nonneg (by omega) (by omega)
  refine ⟨h5, ?_, by omega, by omega⟩
  have h6 : (x + p - 1) / p < o + 1 := Int.ediv_lt_of_lt_mul (by omega) (by rw [Int.add_mul, Int.one_mul]; omega)
  omega
end Go.Ch
