/-
  The frame of a law: its arguments opened; what holds behind the call out of what the walk shows.
-/
import Derived.Test.YtichjhggoioenaaEng13
import Derived.ProofKit
namespace Go.Eng
open Go Go.ChangeShapes Go.WideShapes Go.RowKit

section
variable {H : Type} {enc : TypeId × Value → H} {P : Program} {w : World} {base : Nat} {spare : Nat → Bool} {held : Bool}

/-- A list, one thing for each number. -/
theorem choose_list {α : Type} {p : Nat → α → Prop} : ∀ (n : Nat), (∀ i, i < n → ∃ x, p i x) → ∃ xs : List α, xs.length = n ∧ ∀ (i : Nat) (x : α), xs[i]? = some x → p i x
  | 0, _ => ⟨[], rfl, fun i x h => by simp at h⟩
  | n + 1, h => by
    obtain ⟨xs, h1, h2⟩ := choose_list n fun i hi => h i (by omega)
    obtain ⟨x, hx⟩ := h n (by omega)
    refine ⟨xs ++ [x], by simp [h1], fun i y hy => ?_⟩
    rw [List.getElem?_append] at hy
    split at hy
    · exact h2 i y hy
    · rename_i hi
      rw [List.getElem?_singleton] at hy
      split at hy
      · injection hy with e
        have : i = n := by omega
        subst this; exact e ▸ hx
      · cases hy

theorem lit_rng {k : IntKind} {n : Int} (h : (Lit.int k n).wf = true) : k.min ≤ n ∧ n ≤ k.max := by
  simpa [Lit.wf] using h

theorem cells_some {n : Nat} {a : Addr} {cs : List Value} (h : w.cells? base a n = some cs) : cs.length = n ∧ ∀ j u, cs[j]? = some u → w.cell? (a.add j) = some u := by
  unfold World.cells? at h
  split at h
  · have key : ∀ (n : Nat) (f : Nat → Option Value) (cs : List Value), (List.range n).mapM f = some cs → cs.length = n ∧ ∀ j u, cs[j]? = some u → f j = some u := by
      intro n
      induction n with
      | zero => intro f cs h; simp at h; subst h; exact ⟨rfl, fun j u h => by simp at h⟩
      | succ n ih =>
        intro f cs h
        rw [List.range_succ, List.mapM_append] at h
        simp only [Option.bind_eq_bind, Option.bind_eq_some_iff, List.mapM_cons, List.mapM_nil, Option.pure_def, Option.some.injEq] at h
        obtain ⟨xs, hx, ys, ⟨y, hy, zs, rfl, rfl⟩, rfl⟩ := h
        obtain ⟨h1, h2⟩ := ih f xs hx
        refine ⟨by simp [h1], fun j u hj => ?_⟩
        rw [List.getElem?_append] at hj
        split at hj
        · exact h2 j u hj
        · rename_i hn
          rw [List.getElem?_singleton] at hj
          split at hj
          · injection hj with e
            have : j = n := by omega
            subst this; exact e ▸ hy
          · cases hj
    exact key n _ cs h
  · cases h

/-- A cell that reads as a slice. -/
theorem op_slice {t e : TypeId} {fuel : Nat} {cs : List Value} {x : DataW H × List MemPlace} (ht : P.underlying t = some (.slice e)) (h : DataW.trod enc P w base spare held fuel t cs = some x) :
    ∃ A n cap, cs = [.slice A n cap] ∧ n ≤ cap ∧ cap ≤ maxLen ∧ ∀ i, i < n → ∃ a, A = some a ∧ ∃ (cl : List Value) (f' : Nat) (y : DataW H × List MemPlace), w.cells? base (a.add (i * P.cellsOf e)) (P.cellsOf e) = some cl ∧ DataW.trod enc P w base spare held f' e cl = some y := by
  cases fuel with
  | zero => simp [DataW.trod] at h
  | succ m =>
    unfold DataW.trod at h
    rw [ht] at h
    split at h <;> try (first | contradiction | (rename_i h0; cases h0))
    all_goals first
      | (exact ⟨none, 0, 0, rfl, Nat.le_refl _, Nat.zero_le _, fun i hi => absurd hi (Nat.not_lt_zero _)⟩)
      | skip
    rename_i a len cap
    dsimp only at h
    split at h
    · rename_i hc
      rw [Option.bind_eq_some_iff] at h
      obtain ⟨elems, he, _⟩ := h
      refine ⟨some a, len, cap, rfl, hc.2.1, hc.2.2, fun i hi => ⟨a, rfl, ?_⟩⟩
      have key : ∀ (n : Nat) (f : Nat → Option (DataW H × List MemPlace)) (r : List (DataW H × List MemPlace)), (List.range n).mapM f = some r → ∀ i, i < n → ∃ y, f i = some y := by
        intro n
        induction n with
        | zero => intro f r _ i hi; omega
        | succ n ih =>
          intro f r h i hi
          rw [List.range_succ, List.mapM_append] at h
          simp only [Option.bind_eq_bind, Option.bind_eq_some_iff, List.mapM_cons, List.mapM_nil, Option.pure_def, Option.some.injEq] at h
          obtain ⟨xs, hx, ys, ⟨y, hy, _⟩, _⟩ := h
          by_cases e : i = n
          · subst e; exact ⟨y, hy⟩
          · exact ih f xs hx i (by omega)
      obtain ⟨y, hy⟩ := key len _ elems he i hi
      rw [Option.bind_eq_some_iff] at hy
      obtain ⟨cl, h1, h2⟩ := hy
      exact ⟨cl, m, y, h1, h2⟩
    · cases h

/-- The fields of cells that read as a struct. -/
theorem op_struct {t : TypeId} {fs : Array Field} {fuel : Nat} {cs : List Value} {x : DataW H × List MemPlace} (ht : P.underlying t = some (.struct fs)) (h : DataW.trod enc P w base spare held fuel t cs = some x) :
    cs.length = P.cellsOf t ∧ ∀ (i : Nat) (f : Field), fs[i]? = some f → ∃ (m : Nat) (y : DataW H × List MemPlace), DataW.trod enc P w base spare held m f.type ((cs.drop f.offset).take (P.cellsOf f.type)) = some y := by
  obtain ⟨xs, n, _, _, h1, h2, h3⟩ := DataW.trod_struct ht h
  refine ⟨h1, fun i f hf => ?_⟩
  have h4 := h3 i f hf
  have hi : i < xs.length := by
    rw [h2]; exact (Array.getElem?_eq_some_iff.1 hf).1
  exact ⟨n, xs[i], by rw [h4, List.getElem?_eq_getElem hi]⟩

/-- The elements of cells that read as an array. -/
theorem op_array {t e : TypeId} {n : Nat} {fuel : Nat} {cs : List Value} {x : DataW H × List MemPlace} (ht : P.underlying t = some (.array n e)) (h : DataW.trod enc P w base spare held fuel t cs = some x) :
    cs.length = P.cellsOf t ∧ ∀ i, i < n → ∃ (m : Nat) (y : DataW H × List MemPlace), DataW.trod enc P w base spare held m e ((cs.drop (i * P.cellsOf e)).take (P.cellsOf e)) = some y := by
  cases fuel with
  | zero => simp [DataW.trod] at h
  | succ m =>
    unfold DataW.trod at h
    rw [ht] at h
    dsimp only at h
    split at h
    · rename_i hc
      rw [Option.map_eq_some_iff] at h
      obtain ⟨r, hr, _⟩ := h
      refine ⟨hc, fun i hi => ?_⟩
      have key : ∀ (n : Nat) (f : Nat → Option (DataW H × List MemPlace)) (r : List (DataW H × List MemPlace)), (List.range n).mapM f = some r → ∀ i, i < n → ∃ y, f i = some y := by
        intro n
        induction n with
        | zero => intro f r _ i hi; omega
        | succ n ih =>
          intro f r h i hi
          rw [List.range_succ, List.mapM_append] at h
          simp only [Option.bind_eq_bind, Option.bind_eq_some_iff, List.mapM_cons, List.mapM_nil, Option.pure_def, Option.some.injEq] at h
          obtain ⟨xs, hx, ys, ⟨y, hy, _⟩, _⟩ := h
          by_cases e : i = n
          · subst e; exact ⟨y, hy⟩
          · exact ih f xs hx i (by omega)
      obtain ⟨y, hy⟩ := key n _ r hr i hi
      exact ⟨m, y, hy⟩
    · cases h

/-- A value of a struct's or an array's type: its cells, and how they read. -/
theorem op_agg {r : Reach} {b0 : Nat} {t : TypeId} {v : Value} {d : DataW H} {p : List MemPlace} {n : Nat} (ht : (∃ fs, P.underlying t = some (.struct fs)) ∨ (∃ m e, P.underlying t = some (.array m e))) (hn : P.cellsOf t = n)
    (hv : Value.okWide P w r b0 t v) (h : DataW.Trod enc P w base spare held t v d p) : ∃ (cs : List Value) (fuel : Nat) (y : DataW H × List MemPlace), v = .agg cs.toArray ∧ cs.length = n ∧ DataW.trod enc P w base spare held fuel t cs = some y := by
  have key : ∃ cs, v = .agg cs ∧ cs.size = P.cellsOf t := by
    rcases ht with ⟨fs, ht⟩ | ⟨m, e, ht⟩ <;> simp only [Value.okWide, ht] at hv <;> obtain ⟨cs, h1, h2, _⟩ := hv <;> exact ⟨cs, h1, h2⟩
  obtain ⟨cs, rfl, hsz⟩ := key
  obtain ⟨fuel, hf⟩ := h
  exact ⟨cs.toList, fuel, _, by simp, by simp [hsz, hn], by simpa [Value.cells] using hf⟩

/-- A value of a slice's type. -/
theorem op_one {r : Reach} {b0 : Nat} {t e : TypeId} {v : Value} {d : DataW H} {p : List MemPlace} (ht : P.underlying t = some (.slice e))
    (hv : Value.okWide P w r b0 t v) (h : DataW.Trod enc P w base spare held t v d p) : ∃ (fuel : Nat) (y : DataW H × List MemPlace), DataW.trod enc P w base spare held fuel t [v] = some y := by
  obtain ⟨fuel, hf⟩ := h
  refine ⟨fuel, (d, p), ?_⟩
  have e1 : v.cells = #[v] := by
    simp only [Value.okWide, ht] at hv
    unfold Cell.okWide Cell.ok at hv
    simp only [ht] at hv
    cases v <;> first | rfl | (exfalso; simp at hv; done)
  rw [e1] at hf
  simpa using hf

theorem list1 {α : Type} {l : List α} (h : l.length = 1) : ∃ a, l = [a] := by
  match l, h with
  | [a], _ => exact ⟨a, rfl⟩
theorem listS {α : Type} {l : List α} {n : Nat} (h : l.length = n + 1) : ∃ a r, l = a :: r ∧ r.length = n := by
  match l, h with
  | a :: r, h => exact ⟨a, r, rfl, by simpa using h⟩
theorem list0 {α : Type} {l : List α} (h : l.length = 0) : l = [] := List.eq_nil_of_length_eq_zero h

theorem op_int {t : TypeId} {k : IntKind} {fuel : Nat} {cs : List Value} {x : DataW H × List MemPlace} (ht : P.underlying t = some (.int k)) (h : DataW.trod enc P w base spare held fuel t cs = some x) : ∃ n, cs = [.int k n] ∧ k.min ≤ n ∧ n ≤ k.max := by
  obtain ⟨n, h1, _, h2⟩ := DataW.trod_int ht h
  exact ⟨n, h1, lit_rng h2⟩

/-- A slice of numbers. -/
theorem op_ints {t e : TypeId} {k : IntKind} {fuel : Nat} {cs : List Value} {x : DataW H × List MemPlace} (ht : P.underlying t = some (.slice e)) (he : P.underlying e = some (.int k)) (hc : P.cellsOf e = 1) (h : DataW.trod enc P w base spare held fuel t cs = some x) :
    ∃ A n cap xs, cs = [.slice A n cap] ∧ n ≤ cap ∧ IntsK (fun a => w.cell? a) k A n xs := by
  obtain ⟨A, n, cap, h1, h2, _, h3⟩ := op_slice ht h
  obtain ⟨xs, g1, g2⟩ := choose_list (p := fun i (x : Int) => (∃ a, A = some a ∧ w.cell? (a.add i) = some (.int k x)) ∧ k.min ≤ x ∧ x ≤ k.max) n fun i hi => by
    obtain ⟨a, ha, cl, f', y, k1, k2⟩ := h3 i hi
    obtain ⟨m, rfl, k3⟩ := op_int he k2
    obtain ⟨_, k4⟩ := cells_some k1
    have := k4 0 _ rfl
    rw [hc, Nat.mul_one, show (a.add i).add 0 = a.add i from add_zero' _] at this
    exact ⟨m, ⟨a, ha, this⟩, k3⟩
  exact ⟨A, n, cap, xs, h1, h2, g1.symm, fun i x hx => (g2 i x hx).1, fun i hi => (g2 i _ (List.getElem?_eq_getElem hi)).2⟩

/-- A slice of structs, its elements opened by hel. -/
theorem op_rows {α : Type} {t e : TypeId} {sz fuel : Nat} {ev : α → List Value} {ok : α → Prop} {cs : List Value} {x : DataW H × List MemPlace} (ht : P.underlying t = some (.slice e)) (hc : P.cellsOf e = sz)
    (hel : ∀ (cl : List Value) (f' : Nat) (y : DataW H × List MemPlace), cl.length = sz → DataW.trod enc P w base spare held f' e cl = some y → ∃ x : α, cl = ev x ∧ ok x) (h : DataW.trod enc P w base spare held fuel t cs = some x) :
    ∃ A n cap xs, cs = [.slice A n cap] ∧ n ≤ cap ∧ cap ≤ maxLen ∧ RowsK ev sz (fun a => w.cell? a) A n xs ∧ ∀ x ∈ xs, ok x := by
  obtain ⟨A, n, cap, h1, h2, h0, h3⟩ := op_slice ht h
  obtain ⟨xs, g1, g2⟩ := choose_list (p := fun i (x : α) => (∃ a, A = some a ∧ ∀ j u, (ev x)[j]? = some u → w.cell? (a.add (i * sz + j)) = some u) ∧ ok x) n fun i hi => by
    obtain ⟨a, ha, cl, f', y, k1, k2⟩ := h3 i hi
    rw [hc] at k1
    obtain ⟨k3, k4⟩ := cells_some k1
    obtain ⟨x, rfl, k5⟩ := hel cl f' y k3 k2
    refine ⟨x, ⟨a, ha, fun j u hu => ?_⟩, k5⟩
    have := k4 j u hu
    rwa [add_add] at this
  refine ⟨A, n, cap, xs, h1, h2, h0, ⟨g1.symm, fun i x hx => (g2 i x hx).1⟩, fun x hx => ?_⟩
  obtain ⟨i, hi⟩ := List.getElem?_of_mem hx
  exact (g2 i x hi).2
theorem op_bool {t : TypeId} {fuel : Nat} {cs : List Value} {x : DataW H × List MemPlace} (ht : P.underlying t = some .bool) (h : DataW.trod enc P w base spare held fuel t cs = some x) : ∃ b, cs = [.bool b] := by
  obtain ⟨b, h1, _⟩ := DataW.trod_bool ht h
  exact ⟨b, h1⟩

theorem trodAll_carry (hl : laidOutB P = true) {W W' : World} (hb : Below W.heap.size W W') : ∀ {ts : List TypeId} {vs : List Value} {ds : List (DataW H)} {ps : List MemPlace}, ts.all (fun t => P.readableRec t && decide (t < P.types.size)) = true →
    DataW.TrodAll enc P W 0 (fun _ => true) true ts vs ds ps → (∀ x ∈ ps, x.block < W.heap.size) → DataW.TrodAll enc P W' 0 (fun b => decide (b < W.heap.size)) true ts vs ds ps
  | [], [], [], _, _, h, _ => h
  | t :: ts, v :: vs, d :: ds, ps, hr, ⟨p, q, h1, h2, e⟩, hlt => by
    simp only [List.all_cons, Bool.and_eq_true, decide_eq_true_eq] at hr
    exact ⟨p, q, Below.trod hl hr.1.1 hr.1.2 h1 hb (fun x hx => hlt x (by rw [e]; exact List.mem_append_left _ hx)),
      trodAll_carry hl hb (by simpa using hr.2) h2 (fun x hx => hlt x (by rw [e]; exact List.mem_append_right _ hx)), e⟩

/-- Behind a law's call: true; each argument as it was. -/
theorem post_law {f : Func} {s : ChangeSpec} {W W' : World} {args : Array Value} {ds : List (DataW H)} {before : List MemPlace} {tb : TypeId} {v : Value}
    (hl : laidOutB P = true) (hrd : f.params.toList.all (fun t => P.readableRec t && decide (t < P.types.size)) = true) (hr : f.resultTypes = #[tb]) (hb : P.underlying tb = some .bool) (hv : s.vars = [])
    (hW : DataW.Whole enc P f.params.toList s.vars false W args.toList ds [] before) (hs : s.fn H (ds ++ []) = { results := [.lit (.bool true)], args := ds }) (hk : Keep [] W W') (he : v = .bool true) :
    s.post enc P f false true false false W args v W' := by
  subst he
  have hlt := fun p hp => hW.lt p hp
  have hW0 := hW
  obtain ⟨p, q, hA, hV, rfl, _, _⟩ := hW
  rw [hv] at hV
  obtain ⟨_, rfl⟩ := trodVars_none hV
  have hbl : Below W.heap.size W W' := ⟨hk.os, hk.tape, hk.output, hk.size, fun k hk' => hk.old k hk' (by simp)⟩
  refine ⟨ds, [], p ++ [], [], p, [], hW0, ?_, ?_, ?_, ⟨hk.os, hk.output, fun i hi => ?_⟩, nofun⟩
  · rw [hs, hr]; exact trodAll_mk1 (shut_bool hb true)
  · rw [hs]
    exact trodAll_carry hl hbl hrd hA fun x hx => hlt x (List.mem_append_left _ hx)
  · rw [hs, hv]; rfl
  · rw [hk.old i hi (by simp)]
    cases W.heap[i]? with
    | none => rfl
    | some o => cases o <;> first | exact ⟨rfl, rfl, rfl, fun _ _ => rfl⟩ | exact .inr ⟨rfl, rfl⟩ | rfl
end
end Go.Eng
