/-
  The engine, part 10: '==' of structs; slices of pairs of numbers.
-/
import Derived.Test.YtichjhggoioenaaEng9
import Derived.Laws.StructEq
namespace Go.Eng
open Go

inductive EqFs (P : Program) (d : Nat) (w : World) (xs ys : List Value) : List (TypeId × Nat × Bool) → Bool → Prop
  | nil : EqFs P d w xs ys [] true
  | last {t : TypeId} {off : Nat} {a b : Value} {r : Bool} : (part t xs.toArray off).run P w = .ok a w → (part t ys.toArray off).run P w = .ok b w → (Op.equalIn d t a b).run P w = .ok r w → EqFs P d w xs ys [(t, off, false)] r
  | cons {t : TypeId} {off : Nat} {rest : List (TypeId × Nat × Bool)} {a b : Value} {r s : Bool} : (part t xs.toArray off).run P w = .ok a w → (part t ys.toArray off).run P w = .ok b w → (Op.equalIn d t a b).run P w = .ok r w → EqFs P d w xs ys rest s → EqFs P d w xs ys ((t, off, false) :: rest) (r && s)

theorem run_eqFs {P : Program} {d : Nat} {w : World} {xs ys : List Value} {plan : List (TypeId × Nat × Bool)} {b : Bool} (h : EqFs P d w xs ys plan b) : ∀ {fs : List Field}, fs.map (fun f => (f.type, f.offset, f.name == "_")) = plan → (Op.eqFields d xs.toArray ys.toArray fs).run P w = .ok b w := by
  have key : ∀ {f : Field} {fs : List Field} {t : TypeId} {off : Nat} {a b : Value} {r : Bool}, (f.type, f.offset, f.name == "_") = (t, off, false) → (part t xs.toArray off).run P w = .ok a w → (part t ys.toArray off).run P w = .ok b w → (Op.equalIn d t a b).run P w = .ok r w →
      (Op.eqFields d xs.toArray ys.toArray (f :: fs)).run P w = if r then (Op.eqFields d xs.toArray ys.toArray fs).run P w else .ok false w := by
    intro f fs t off a b r he h1 h2 h3
    simp only [Prod.mk.injEq] at he
    obtain ⟨rfl, rfl, hn⟩ := he
    have hn' : f.name ≠ "_" := by simpa using hn
    simp only [Op.eqFields, hn', ne_eq, not_false_eq_true, if_true, Sem.run_bind, h1, h2, h3, Result.andThen_ok]
    cases r <;> simp
  induction h with
  | nil =>
    intro fs hfs
    simp only [List.map_eq_nil_iff] at hfs
    subst hfs; simp [Op.eqFields]
  | last h1 h2 h3 =>
    intro fs hfs
    cases fs with
    | nil => simp at hfs
    | cons f fs =>
      simp only [List.map_cons, List.cons.injEq, List.map_eq_nil_iff] at hfs
      obtain ⟨hf, rfl⟩ := hfs
      rw [key hf h1 h2 h3]
      split
      · rename_i hr; simp [Op.eqFields, hr]
      · rename_i hr; simp at hr; rw [hr]
  | @cons t off rest a b r s h1 h2 h3 _ ih =>
    intro fs hfs
    cases fs with
    | nil => simp at hfs
    | cons f fs =>
      simp only [List.map_cons, List.cons.injEq] at hfs
      rw [key hfs.1 h1 h2 h3]
      cases r
      · simp
      · simp [ih hfs.2]

theorem run_eqStruct {P : Program} {d : Nat} {w : World} {t : TypeId} {xs ys : List Value} {plan : List (TypeId × Nat × Bool)} {b : Bool} (ht : P.underlying t = some (.struct (P.fieldsOf t))) (hp : P.stoodInHeld t = false)
    (hf : (P.fieldsOf t).toList.map (fun f => (f.type, f.offset, f.name == "_")) = plan) (h : EqFs P d w xs ys plan b) : (Op.equalIn (d + 1) t (.agg xs.toArray) (.agg ys.toArray)).run P w = .ok b w := by
  rw [run_equalIn_struct w d t _ _ ht hp]
  exact run_eqFs h hf

/-- Pairs of numbers in memory. -/
abbrev Prs := List (Int × Int)
/-- What is known of a slice of pairs. -/
structure PairsK (F : Know) (A : Option Addr) (n : Nat) (es : Prs) : Prop where
  len : n = es.length
  at_ : ∀ (i : Nat) (e : Int × Int), es[i]? = some e → ∃ a, A = some a ∧ F (a.add (i * 2)) = some (.int .i64 e.1) ∧ F (a.add (i * 2 + 1)) = some (.int .i64 e.2)
  rng : ∀ (i : Nat) (h : i < es.length), -9223372036854775808 ≤ es[i].1 ∧ es[i].1 ≤ 9223372036854775807 ∧ -9223372036854775808 ≤ es[i].2 ∧ es[i].2 ≤ 9223372036854775807
theorem PairsK.some {F : Know} {A : Option Addr} {n : Nat} {es : Prs} (h : PairsK F A n es) {i : Nat} (hi : i < es.length) : ∃ a, A = Option.some a := by
  obtain ⟨a, ha, _⟩ := h.at_ i es[i] (List.getElem?_eq_getElem hi)
  exact ⟨a, ha⟩
theorem PairsK.cells {F : Know} {a : Addr} {n : Nat} {es : Prs} (h : PairsK F (Option.some a) n es) {i : Nat} (hi : i < es.length) : ∀ j, j < 2 → F ((a.add (((i : Int)).toNat * 2)).add j) = [Value.int .i64 es[i].1, .int .i64 es[i].2][j]? := by
  intro j hj
  obtain ⟨b, hb, h1, h2⟩ := h.at_ i es[i] (List.getElem?_eq_getElem hi)
  cases hb
  rw [add_add, show ((i : Int)).toNat = i from by omega]
  match j, hj with
  | 0, _ => simpa using h1
  | 1, _ => simpa using h2
def cellsP (es : Prs) : List Value := es.flatMap fun e => [.int .i64 e.1, .int .i64 e.2]
theorem cellsP_get : ∀ (es : Prs) (i : Nat) (e : Int × Int), es[i]? = some e → (cellsP es)[i * 2]? = some (.int .i64 e.1) ∧ (cellsP es)[i * 2 + 1]? = some (.int .i64 e.2)
  | [], i, e, h => by simp at h
  | x :: r, 0, e, h => by simp at h; subst h; simp [cellsP]
  | x :: r, i + 1, e, h => by
    have := cellsP_get r i e (by simpa using h)
    have e1 : cellsP (x :: r) = .int .i64 x.1 :: .int .i64 x.2 :: cellsP r := rfl
    rw [e1, show (i + 1) * 2 = i * 2 + 1 + 1 by omega, show i * 2 + 1 + 1 + 1 = (i * 2 + 1) + 1 + 1 by omega]
    simpa using this
theorem pairsK_lit {es : Prs} {F' : Know} {p : Nat} (hr : ∀ (i : Nat) (h : i < es.length), -9223372036854775808 ≤ es[i].1 ∧ es[i].1 ≤ 9223372036854775807 ∧ -9223372036854775808 ≤ es[i].2 ∧ es[i].2 ≤ 9223372036854775807)
    (hF : ∀ k u, (cellsP es)[k]? = some u → F' ⟨p, k, none⟩ = some u) : PairsK F' (Option.some ⟨p, 0, none⟩) es.length es := by
  refine ⟨rfl, fun i e he => ⟨_, rfl, ?_, ?_⟩, hr⟩
  · obtain ⟨h4, _⟩ := cellsP_get es i e he
    have := hF _ _ h4
    rw [add_mk, Nat.zero_add]; exact this
  · obtain ⟨_, h5⟩ := cellsP_get es i e he
    have := hF _ _ h5
    rw [add_mk, Nat.zero_add]; exact this
/-- A literal of numbers that is known. -/
theorem intsK_lit {xs : List Int} {kd : IntKind} {F' : Know} {p : Nat} (hr : ∀ (i : Nat) (h : i < xs.length), kd.min ≤ xs[i] ∧ xs[i] ≤ kd.max) (hF : ∀ k u, (xs.map (Value.int kd))[k]? = some u → F' ⟨p, k, none⟩ = some u) : IntsK F' kd (Option.some ⟨p, 0, none⟩) xs.length xs :=
  ⟨rfl, fun i x hx => ⟨_, rfl, by rw [add_mk, Nat.zero_add]; exact hF i _ (by simp [hx])⟩, hr⟩
end Go.Eng
