/-
  The engine, part 13: slices of structs that are known; appends onto slices that are known.
-/
import Derived.Test.YtichjhggoioenaaEng12
namespace Go.Eng
open Go

/-- What is known of a slice of things of some kind, each of sz cells. -/
structure RowsK {α : Type} (enc : α → List Value) (sz : Nat) (F : Know) (A : Option Addr) (n : Nat) (xs : List α) : Prop where
  len : n = xs.length
  at_ : ∀ (i : Nat) (x : α), xs[i]? = some x → ∃ a, A = some a ∧ ∀ j u, (enc x)[j]? = some u → F (a.add (i * sz + j)) = some u

section
variable {α : Type} {enc : α → List Value} {sz : Nat} {F F' : Know} {A : Option Addr} {n : Nat} {xs : List α}

theorem RowsK.some (h : RowsK enc sz F A n xs) {i : Nat} (hi : i < xs.length) : ∃ a, A = Option.some a := by
  obtain ⟨a, ha, _⟩ := h.at_ i xs[i] (List.getElem?_eq_getElem hi)
  exact ⟨a, ha⟩
theorem RowsK.mono (h : RowsK enc sz F A n xs) (hF : ∀ a v, F a = Option.some v → F' a = Option.some v) : RowsK enc sz F' A n xs :=
  ⟨h.len, fun i x hx => by obtain ⟨a, h1, h2⟩ := h.at_ i x hx; exact ⟨a, h1, fun j u hu => hF _ _ (h2 j u hu)⟩⟩
/-- One element. -/
theorem RowsK.cells {a : Addr} (h : RowsK enc sz F (Option.some a) n xs) {i : Int} {k : Nat} (hk : i.toNat = k) (hi : k < xs.length) (he : (enc xs[k]).length = sz) : ∀ j, j < sz → F ((a.add (i.toNat * sz)).add j) = (enc xs[k])[j]? := by
  intro j hj
  obtain ⟨b, hb, h1⟩ := h.at_ k xs[k] (List.getElem?_eq_getElem hi)
  cases hb
  rw [add_add, hk, List.getElem?_eq_getElem (by omega)]
  exact h1 j _ (List.getElem?_eq_getElem (by omega))
/-- One cell of one element. -/
theorem RowsK.cell {a : Addr} (h : RowsK enc sz F (Option.some a) n xs) {i : Int} {k : Nat} (hk : i.toNat = k) (hi : k < xs.length) {j : Nat} {u : Value} (hu : (enc xs[k])[j]? = Option.some u) : F ((a.add (i.toNat * sz)).add j) = Option.some u := by
  obtain ⟨b, hb, h1⟩ := h.at_ k xs[k] (List.getElem?_eq_getElem hi)
  cases hb
  rw [add_add, hk]
  exact h1 j u hu
theorem RowsK.cell1 {a : Addr} (h : RowsK enc sz F (Option.some a) n xs) {i : Int} {k : Nat} (hk : i.toNat = k) (hi : k < xs.length) {u : Value} (hu : enc xs[k] = [u]) : F (a.add (i.toNat * sz)) = Option.some u := by
  obtain ⟨b, hb, h1⟩ := h.at_ k xs[k] (List.getElem?_eq_getElem hi)
  cases hb
  rw [hk]
  have := h1 0 u (by rw [hu]; rfl)
  rwa [Nat.add_zero] at this
theorem RowsK.nil : RowsK enc sz F A 0 [] := ⟨rfl, fun i x h => by simp at h⟩
theorem RowsK.take (h : RowsK enc sz F A n xs) (k : Nat) (hk : k ≤ n) : RowsK enc sz F A k (xs.take k) := by
  refine ⟨by rw [List.length_take, ← h.len]; omega, fun i x hx => h.at_ i x ?_⟩
  rw [List.getElem?_take] at hx
  split at hx
  · exact hx
  · cases hx
theorem RowsK.drop (h : RowsK enc sz F A n xs) (k : Nat) : RowsK enc sz F (A.map (·.add (k * sz))) (n - k) (xs.drop k) := by
  refine ⟨by rw [List.length_drop, ← h.len], fun i x hx => ?_⟩
  rw [List.getElem?_drop] at hx
  obtain ⟨a, rfl, h1⟩ := h.at_ (k + i) x hx
  refine ⟨_, rfl, fun j u hu => ?_⟩
  rw [add_add, show k * sz + (i * sz + j) = (k + i) * sz + j by rw [Nat.add_mul, Nat.add_assoc]]
  exact h1 j u hu
/-- The part from k on, as a slice expression gives it. -/
theorem RowsK.from (h : RowsK enc sz F A n xs) {cap : Nat} (k : Nat) (hk : k ≤ n) (hc : n ≤ cap) : RowsK enc sz F (if cap = k then A else A.map (·.add (k * sz))) (n - k) (xs.drop k) := by
  split
  · have e : xs.drop k = [] := List.drop_eq_nil_of_le (by rw [← h.len]; omega)
    have e2 : n - k = 0 := by omega
    rw [e, e2]; exact RowsK.nil
  · exact h.drop k

/-- All cells of a list of things. -/
def rowsV (enc : α → List Value) (xs : List α) : List Value := xs.flatMap enc
theorem rowsV_len (he : ∀ x : α, (enc x).length = sz) (xs : List α) : (rowsV enc xs).length = xs.length * sz := by
  induction xs with
  | nil => simp [rowsV]
  | cons x r ih =>
    have : rowsV enc (x :: r) = enc x ++ rowsV enc r := rfl
    rw [this, List.length_append, he, ih, List.length_cons, Nat.add_mul, Nat.one_mul, Nat.add_comm]
theorem rowsV_app (xs ys : List α) : rowsV enc (xs ++ ys) = rowsV enc xs ++ rowsV enc ys := by simp [rowsV]
theorem rowsV_one (x : α) : rowsV enc [x] = enc x := by simp [rowsV]
theorem rowsV_get (he : ∀ x : α, (enc x).length = sz) : ∀ (xs : List α) (i : Nat) (x : α) (j : Nat) (u : Value), xs[i]? = Option.some x → (enc x)[j]? = Option.some u → (rowsV enc xs)[i * sz + j]? = Option.some u
  | [], i, x, j, u, h, _ => by simp at h
  | y :: r, 0, x, j, u, h, hu => by
    simp at h; subst h
    have : rowsV enc (y :: r) = enc y ++ rowsV enc r := rfl
    rw [this, Nat.zero_mul, Nat.zero_add, List.getElem?_append_left (List.getElem?_eq_some_iff.1 hu).1]
    exact hu
  | y :: r, i + 1, x, j, u, h, hu => by
    have e : rowsV enc (y :: r) = enc y ++ rowsV enc r := rfl
    rw [e, List.getElem?_append_right (by rw [he, Nat.add_mul]; omega), he, show (i + 1) * sz + j - sz = i * sz + j by rw [Nat.add_mul]; omega]
    exact rowsV_get he r i x j u (by simpa using h) hu
theorem rowsV_inv (he : ∀ x : α, (enc x).length = sz) (hz : 0 < sz) : ∀ (xs : List α) (k : Nat) (u : Value), (rowsV enc xs)[k]? = Option.some u → ∃ x, xs[k / sz]? = Option.some x ∧ (enc x)[k % sz]? = Option.some u
  | [], k, u, h => by simp [rowsV] at h
  | y :: r, k, u, h => by
    have e : rowsV enc (y :: r) = enc y ++ rowsV enc r := rfl
    rw [e] at h
    rcases Nat.lt_or_ge k sz with hk | hk
    · rw [List.getElem?_append_left (by rw [he]; exact hk)] at h
      rw [Nat.div_eq_of_lt hk, Nat.mod_eq_of_lt hk]
      exact ⟨y, rfl, h⟩
    · rw [List.getElem?_append_right (by rw [he]; exact hk), he] at h
      obtain ⟨x, h1, h2⟩ := rowsV_inv he hz r (k - sz) u h
      have e1 : k / sz = (k - sz) / sz + 1 := by
        rw [Nat.div_eq_sub_div hz hk]
      have e2 : k % sz = (k - sz) % sz := by rw [Nat.mod_eq_sub_mod hk]
      rw [e1, e2]
      exact ⟨x, by simpa using h1, h2⟩
/-- What is known of a slice, cell for cell. -/
theorem RowsK.flat (h : RowsK enc sz F A n xs) (he : ∀ x : α, (enc x).length = sz) (hz : 0 < sz) : ∀ j u, (rowsV enc xs)[j]? = Option.some u → ∃ a, A = Option.some a ∧ F (a.add j) = Option.some u := by
  intro j u hj
  obtain ⟨x, h1, h2⟩ := rowsV_inv he hz xs j u hj
  obtain ⟨a, ha, h3⟩ := h.at_ _ x h1
  refine ⟨a, ha, ?_⟩
  have := h3 _ u h2
  rwa [Nat.div_add_mod' j sz] at this
/-- A slice of one's own that is known later. -/
theorem rowsK_of (he : ∀ x : α, (enc x).length = sz) (hz : 0 < sz) (hF : ∀ j u, (rowsV enc xs)[j]? = Option.some u → ∃ a, A = Option.some a ∧ F (a.add j) = Option.some u) (hn : n = xs.length) : RowsK enc sz F A n xs := by
  refine ⟨hn, fun i x hx => ?_⟩
  have key : ∀ j u, (enc x)[j]? = Option.some u → ∃ a, A = Option.some a ∧ F (a.add (i * sz + j)) = Option.some u := fun j u hu => hF _ u (rowsV_get he xs i x j u hx hu)
  have h0 : 0 < (enc x).length := by rw [he]; exact hz
  obtain ⟨a, ha, _⟩ := key 0 (enc x)[0] (List.getElem?_eq_getElem h0)
  subst ha
  exact ⟨a, rfl, fun j u hu => by obtain ⟨b, hb, h⟩ := key j u hu; cases hb; exact h⟩
theorem SlO.rows {e : TypeId} {v : Value} {b : Own} (h : SlO e sz v n (rowsV enc xs) b) (he : ∀ x : α, (enc x).length = sz) (hz : 0 < sz) {F' : Know} (hF : ∀ p cs t fr k, (p, Obj.cells cs t fr) ∈ b → ∀ u, cs[k]? = Option.some u → F' ⟨p, k, none⟩ = Option.some u) :
    ∃ A cap, v = .slice A n cap ∧ n ≤ cap ∧ cap ≤ maxLen ∧ RowsK enc sz F' A n xs := by
  obtain ⟨A, cap, rfl, h1, h2, h3⟩ := h.later hF
  refine ⟨A, cap, rfl, h1, h2, rowsK_of he hz h3 ?_⟩
  have := h.1
  rw [rowsV_len he] at this
  exact (Nat.eq_of_mul_eq_mul_right hz this).symm
end

section
variable {c : Cx} {env : Env} {F : Know} {own : Own} {Q : Exit → Act → World → Prop}
variable {ty : TypeId} {ps : String} {af : Array Edge} {g : Option (Nat × Bool)} {l : List Oper} {k : Nat} {draw : Bool}

/-- A block made by a barrier. -/
theorem dm {o : Oper} {V : Nat → Value → Obj → Prop} {t : Tmp} (ho : nthO l k = some o) (hB : aloneB l.toArray k = true) (hN : New c F own env o V) (ht : o.dst = some t) (hd : Nat.blt t c.n = true) (hw : wantedB l.toArray env o)
    (h : ∀ p v ob, V p v ob → R c true l.toArray Q (k + 1) ((t, v) :: env) F ((p, ob) :: own)) : R c true l.toArray Q k env F own :=
  r_new (by rw [← nthO_eq]; exact ho) (fun _ => hB) (by rw [ht]; exact hd) hw hN (by rw [ht]; exact h)

/-- An append onto a slice without room that is known, or one's own. -/
theorem new_appK {s x : Operand} {T e : TypeId} {size bytes : Nat} {d : Option Tmp} {B : Option Addr} {A : Option Addr} {n m cp : Nat} {xs news : List Value} (hT : AppT c.P T e size bytes) (hv : Env.ev env s = some (.slice B n n)) (hx : Env.ev env x = some (.slice A m cp))
    (hxl : xs.length = n * size) (hl : news.length = m * size) (h0 : 0 < m) (holds : ∀ w, Sat c F own w → ∀ j u, xs[j]? = some u → ∃ b, B = some b ∧ w.cell? (b.add j) = some u) (hnews : ∀ w, Sat c F own w → ∀ j u, news[j]? = some u → ∃ a, A = some a ∧ w.cell? (a.add j) = some u)
    (hm : (n + m) * bytes ≤ 140737488355328) (hm2 : n + m ≤ maxLen) :
    New c F own env ⟨d, .call { callee := .builtin .append, args := #[s, x], argTypes := #[T, T] }, ty, ps, af, g⟩ (fun p v ob => SlO e size v (n + m) (xs ++ news) [(p, ob)]) := by
  intro a ha w hw
  obtain ⟨i, z, hi, hz, hsz, hby, hzs⟩ := hT.el
  subst hsz; subst hby
  have hpos := hT.pos
  have holds := holds w hw
  have hnews := hnews w hw
  obtain ⟨ad, rfl⟩ : ∃ a, A = some a := by
    have h0 : 0 < news.length := by rw [hl]; exact Nat.mul_pos h0 hpos
    obtain ⟨a, ha, _⟩ := hnews 0 news[0] (List.getElem?_eq_getElem h0)
    exact ⟨a, ha⟩
  have hnw : ∀ j u, news[j]? = some u → w.cell? (ad.add j) = some u := fun j u hj => by
    obtain ⟨a', ha, h2⟩ := hnews j u hj
    cases ha; exact h2
  have hsmall : n + m ≤ 9223372036854775807 := by simp only [maxLen] at hm2; omega
  have hlen : (xs ++ news).length = (n + m) * i.size := by rw [List.length_append, hxl, hl, Nat.add_mul]
  have hSl : ∀ old, SlO e i.size (.slice (some ⟨w.heap.size, 0, none⟩) (n + m) (grownCap w (n + m) old e)) (n + m) (xs ++ news) [(w.heap.size, .cells (xs.toArray ++ news.toArray ++ Builtin.zeroCells z.cells (grownCap w (n + m) old e - (n + m))) e)] := fun old => by
    refine ⟨hlen, .inr ⟨_, _, (Builtin.zeroCells z.cells (grownCap w (n + m) old e - (n + m))).toList, rfl, by simp, grownCap_ge w (n + m) old e, grownCap_le_maxLen w (n + m) old e hm2, ?_⟩⟩
    have hge := grownCap_ge w (n + m) old e
    rw [List.length_append, hlen, Array.length_toList, size_zeroCells, hzs, ← Nat.add_mul]
    congr 1; omega
  have hgr : ∀ old, Grew w (w.drew.alloc (.cells (xs.toArray ++ news.toArray ++ Builtin.zeroCells z.cells (grownCap w (n + m) old e - (n + m))) e)) (some (.cells (xs.toArray ++ news.toArray ++ Builtin.zeroCells z.cells (grownCap w (n + m) old e - (n + m))) e)) := fun old =>
    ⟨rfl, rfl, rfl, by show w.heap.push _ = _; simp⟩
  have hrun : ∃ old, (Builtin.append_ #[T, T] ty #[.slice B n n, .slice (some ad) m cp]).run c.P w = .ok (.slice (some ⟨w.heap.size, 0, none⟩) (n + m) (grownCap w (n + m) old e)) (w.drew.alloc (.cells (xs.toArray ++ news.toArray ++ Builtin.zeroCells z.cells (grownCap w (n + m) old e - (n + m))) e)) := by
    cases B with
    | none =>
      have hn : n = 0 := by
        rcases Nat.eq_zero_or_pos n with h | h
        · exact h
        · have h1 : 0 < xs.length := by rw [hxl]; exact Nat.mul_pos h hpos
          obtain ⟨b, hb, _⟩ := holds 0 xs[0] (List.getElem?_eq_getElem h1)
          cases hb
      subst hn
      have hxs : xs = [] := List.eq_nil_of_length_eq_zero (by simpa using hxl)
      subst hxs
      refine ⟨0, ?_⟩
      have hr := run_append_nil (P := c.P) w T ty e i z hT.ud hi hz ad m cp news hl hnw h0 (by omega) (by simp only [Nat.zero_add] at hm; omega)
      simpa using hr
    | some b =>
      refine ⟨n, ?_⟩
      have ho : ∀ j u, xs[j]? = some u → w.cell? (b.add j) = some u := fun j u hj => by
        obtain ⟨b', hb, h2⟩ := holds j u hj
        cases hb; exact h2
      exact run_append_grow (P := c.P) w T ty e i z hT.ud hi hz b n n xs hxl ho ad m cp news hl hnw (by omega) (by omega) (growslice_fits (by omega) hm)
  obtain ⟨old, hrun⟩ := hrun
  refine ⟨_, _, _, ?_, hgr old, hSl old⟩
  unfold execOp
  simp only [resolve, invoke, builtin, Sem.run_bind, Sem.run_pure, Result.andThen_ok, List.map_toArray, List.map_cons, List.map_nil, ha.eval hv, ha.eval hx]
  rw [hrun]
  rfl

/-- x[:a:a]. -/
theorem det_slice3 {d : Option Tmp} {t e : TypeId} {sz : Nat} {x hi mx : Operand} {A : Option Addr} {n cap a : Nat} (ht : SliceOf c.P t e sz) (hx : Env.ev env x = some (.slice A n cap))
    (hh : Env.ev env hi = some (.int .i64 (a : Int))) (hm : Env.ev env mx = some (.int .i64 (a : Int))) (b : a ≤ cap) :
    Det c F own env ⟨d, .slice t x none (some hi) (some mx), ty, ps, af, g⟩ (.slice A a a) := by
  have h := det_slice (c := c) (F := F) (own := own) (d := d) (ty := ty) (ps := ps) (af := af) (g := g) (t := t) (lo := none) (hi := some hi) (mx := some mx) (l := none) (h := some (a : Int)) (m := some (a : Int)) ht hx rfl (by simp [bndOf, hh]) (by simp [bndOf, hm]) (by simp) (by simp only [Option.getD_none, Option.getD_some]; omega)
  simp only [Option.getD_none, Option.getD_some, Int.toNat_zero, Nat.sub_zero, Nat.zero_mul, Int.toNat_natCast] at h
  have e : (if a = 0 then A else A.map fun x => x.add 0) = A := by
    split
    · rfl
    · cases A <;> simp [add_zero']
  rw [e] at h
  exact h
/-- x[k:]. -/
theorem det_sliceLo {d : Option Tmp} {t e : TypeId} {sz : Nat} {x lo : Operand} {A : Option Addr} {n cap : Nat} {m : Int} (k : Nat) (ht : SliceOf c.P t e sz) (hx : Env.ev env x = some (.slice A n cap))
    (hl : Env.ev env lo = some (.int .i64 m)) (hk : m = (k : Int)) (b : k ≤ n) (hc : n ≤ cap) :
    Det c F own env ⟨d, .slice t x (some lo) none none, ty, ps, af, g⟩ (.slice (if cap = k then A else A.map (·.add (k * sz))) (n - k) (cap - k)) := by
  subst hk
  have h := det_slice (c := c) (F := F) (own := own) (d := d) (ty := ty) (ps := ps) (af := af) (g := g) (t := t) (lo := some lo) (hi := none) (mx := none) (l := some (k : Int)) (h := none) (m := none) ht hx (by simp [bndOf, hl]) rfl rfl (by simp) (by simp only [Option.getD_none, Option.getD_some]; omega)
  simp only [Option.getD_none, Option.getD_some, Int.toNat_natCast] at h
  exact h

/-- An append to a slice of one's own, whose block stands first; behind it, it stands last. -/
theorem oAppH {s x : Operand} {T e : TypeId} {size bytes : Nat} {b post : Own} {v : Value} {n : Nat} {xs : List Value} {A : Option Addr} {m cp : Nat} {news : List Value} {t : Tmp} (hB : draw = true → aloneB l.toArray k = true)
    (ho : nthO l k = some ⟨some t, .call { callee := .builtin .append, args := #[s, x], argTypes := #[T, T] }, ty, ps, af, g⟩) (hT : AppT c.P T e size bytes) (hv : Env.ev env s = some v) (hx : Env.ev env x = some (.slice A m cp))
    (hd : Nat.blt t c.n = true) (hw : wantedB l.toArray env ⟨some t, .call { callee := .builtin .append, args := #[s, x], argTypes := #[T, T] }, ty, ps, af, g⟩)
    (hS : SlO e size v n xs b) (hl : news.length = m * size) (hnews : ∀ w, Sat c F (post ++ b) w → ∀ j u, news[j]? = some u → ∃ a, A = some a ∧ w.cell? (a.add j) = some u) (h1 : ∀ u ∈ news, u.oneCell' = true)
    (hm : (n + m) * bytes ≤ 140737488355328) (hm2 : n + m ≤ maxLen)
    (hn : ∀ A' cp' b', SlO e size (.slice A' (n + m) cp') (n + m) (xs ++ news) b' → R c draw l.toArray Q (k + 1) ((t, .slice A' (n + m) cp') :: env) F (post ++ b')) : R c draw l.toArray Q k env F (b ++ post) :=
  tk_perm List.perm_append_comm (oAppS hB ho hT hv hx hd hw hS hl hnews h1 hm hm2 hn)
end
end Go.Eng
