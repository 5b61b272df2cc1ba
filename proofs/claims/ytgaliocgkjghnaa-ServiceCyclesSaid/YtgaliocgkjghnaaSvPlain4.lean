/-
  The openings, entry by entry; a growing slice of them.
-/
import Derived.Test.YtgaliocgkjghnaaSvPlain3
import Derived.Test.YtgaliocgkjghnaaEng14ToEng22
namespace Go.Sv
open Go Go.Eng Go.Gt Go.Proofs.Gt Go.Sw
def o2 (x : Int × Int) : List Value := [.int .i64 x.1, .int .i64 x.2]
theorem o2_len (x : Int × Int) : (o2 x).length = 2 := rfl
theorem set_last (l rest : List Value) (a b e : Value) : (l ++ [a, b] ++ rest).set (l.length + 1) e = l ++ [a, e] ++ rest := by
  induction l with
  | nil => rfl
  | cons x l ih => simp only [List.length_cons, List.cons_append, List.set_cons_succ]; rw [← ih]
/-- The last one's end, written anew. -/
theorem slo_last {T : TypeId} {A : Option Addr} {n cp : Nat} {m : List (Int × Int)} {s z x : Int} {b : Own} (hS : SlO T 2 (.slice A n cp) n (rowsV o2 (m ++ [(s, z)])) b) :
    ∃ p cs cs', A = some ⟨p, 0, none⟩ ∧ b = [(p, .cells cs.toArray T (0, 0))] ∧ n = m.length + 1 ∧ setV (m.length * 2 + 1) [.int .i64 x] cs some = some cs' ∧ SlO T 2 (.slice A n cp) n (rowsV o2 (m ++ [(s, x)])) [(p, .cells cs'.toArray T (0, 0))] := by
  have hn := hS.1
  rw [rowsV_len o2_len, List.length_append] at hn
  have hn1 : n = m.length + 1 := by simp only [List.length_cons, List.length_nil] at hn; omega
  rcases hS.2 with ⟨hv, h0, _⟩ | ⟨p, cap, rest, hv, hb, h2, h3, h4⟩
  · omega
  · cases hv
    have l1 : (rowsV o2 m).length = m.length * 2 := rowsV_len o2_len m
    have e1 : rowsV o2 (m ++ [(s, z)]) = rowsV o2 m ++ [.int .i64 s, .int .i64 z] := by rw [rowsV_app, rowsV_one]; rfl
    have e2 : rowsV o2 (m ++ [(s, x)]) = rowsV o2 m ++ [.int .i64 s, .int .i64 x] := by rw [rowsV_app, rowsV_one]; rfl
    refine ⟨p, _, _, rfl, hb, hn1, (setV_one (v := .int .i64 x) (j := m.length * 2 + 1) (by rw [e1]; simp only [List.length_append, List.length_cons, List.length_nil]; omega) some), ⟨by rw [rowsV_len o2_len]; simp only [List.length_append, List.length_cons, List.length_nil]; omega, .inr ⟨p, cp, rest, rfl, ?_, h2, h3, ?_⟩⟩⟩
    · rw [e1, e2, ← l1, set_last]
    · rw [e2, ← h4, e1]; simp
section
variable {es : Ents} {cyc : Int}
theorem ref_step (hG : okG es cyc = true) {x t : Int} (hx : x < t) : ∃ hi : (loc es cyc x).1 < es.length, (0 ≤ (loc es cyc x).2 ∧ (loc es cyc x).2 < 9600000) ∧ (0 ≤ (es[(loc es cyc x).1]).1 ∧ (es[(loc es cyc x).1]).1 ≤ 255 ∧ 1 ≤ (es[(loc es cyc x).1]).2 ∧ (es[(loc es cyc x).1]).2 ≤ 9600000) ∧
    x < min (x - (loc es cyc x).2 + (es[(loc es cyc x).1]).2) t ∧ ∀ y, x ≤ y → y < min (x - (loc es cyc x).2 + (es[(loc es cyc x).1]).2) t → op6 es cyc y = bitE (es[(loc es cyc x).1]).1 6 := by
  obtain ⟨hi, h1, h2, h3⟩ := loc_spec hG x
  have he := okE_get (okG_parts hG).2.2.1 hi
  have hb1 := beg_one hG x
  have hz := ent_zero hG x
  rw [List.getD_eq_getElem?_getD, List.getElem?_eq_getElem hi] at hz
  have hb : beg es cyc x 1 = x - (loc es cyc x).2 + (es[(loc es cyc x).1]).2 := by
    unfold beg rs; simp only [rs]; rw [hz]; simp
  refine ⟨hi, loc_bounds hG x, he, by omega, fun y k1 k2 => ?_⟩
  unfold op6 isO
  rw [state_cover hG x (i := 0) (by omega) (by rw [beg_zero]; omega) (by show y < beg es cyc x 1; omega), hz]; rfl
structure RS where
  at_ : Int
  op : Bool
  out : List (Int × Int)
  A : Option Addr
  cp : Nat
  b : Own
structure RsI (p : Int → Bool) (f t : Int) (s : RS) : Prop where
  run : Runs p f s.at_ s.out
  le : f ≤ s.at_ ∧ s.at_ ≤ t
  on : s.op = true → f < s.at_ ∧ p (s.at_ - 1) = true
  off : s.op = false → s.at_ = f ∨ p (s.at_ - 1) = false
variable {p : Int → Bool}
theorem RsI.start {f t : Int} (h : f ≤ t) : RsI p f t ⟨f, false, [], none, 0, []⟩ := ⟨.nil fun y h1 h2 => by simp only at h2; omega, ⟨Int.le_refl _, h⟩, (fun h => by cases h), fun _ => .inl rfl⟩
theorem RsI.last {f t : Int} {s : RS} (h : RsI p f t s) (ho : s.op = true) : ∃ m b, s.out = m ++ [(b, s.at_)] := h.run.last (h.on ho).1 (h.on ho).2
theorem RsI.next {f t e : Int} {is : Bool} {s : RS} (h : RsI p f t s) (h1 : s.at_ < e) (h2 : e ≤ t) (h3 : ∀ y, s.at_ ≤ y → y < e → p y = is) {A : Option Addr} {cp : Nat} {b : Own} {out : List (Int × Int)} (hr : Runs p f e out) : RsI p f t ⟨e, is, out, A, cp, b⟩ := by
  have hl := h.le
  exact ⟨hr, ⟨by simp only; omega, h2⟩, fun hi => ⟨by simp only; omega, by simp only at hi ⊢; rw [h3 _ (by omega) (by omega), hi]⟩, fun hi => .inr (by simp only at hi ⊢; rw [h3 _ (by omega) (by omega), hi])⟩
end
end Go.Sv
