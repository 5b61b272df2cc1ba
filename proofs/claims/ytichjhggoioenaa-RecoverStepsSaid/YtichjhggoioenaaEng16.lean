/-
  The engine, part 16: a move that is unordered with the barrier ahead of it.
-/
import Derived.Test.YtichjhggoioenaaEng15
namespace Go.Eng
open Go
section
variable {c : Cx} {env : Env} {F : Know} {own : Own} {Q : Exit → Act → World → Prop}
variable {ty : TypeId} {ps : String} {af : Array Edge} {g : Option (Nat × Bool)} {l : List Oper} {k : Nat}

def aheadB (ops : Array Oper) (k : Nat) : Bool :=
  Region.noSelect ops && Region.free .any ops (lk ops.size k) (k + 1) && (Region.ready .any ops (lk ops.size k)).contains (k + 1) && (Region.ready .any ops ((lk ops.size k).setIfInBounds (k + 1) true) == [k])

/-- The move behind operation k is taken ahead of it. -/
theorem r_ahead {x : Operand} {t : Tmp} {v : Value} {ty1 : TypeId} {ps1 : String} {af1 : Array Edge} (hro : c.ro = none) (hB : aheadB l.toArray k = true) (ho : nthO l (k + 1) = some ⟨some t, .move x, ty1, ps1, af1, none⟩) (hd : Nat.blt t c.n = true) (hx : Env.ev env x = some v)
    (h : TK c ((t, v) :: env) F own (wpOpIn (FR c.ro) 0 c.P l.toArray (noPanic Q) k (RestOf c.ro true c.P l.toArray (noPanic Q) (k + 2)))) : R c true l.toArray Q k env F own := by
  simp only [aheadB, Bool.and_eq_true, beq_iff_eq] at hB
  obtain ⟨⟨⟨h1, h2⟩, h3⟩, h4⟩ := hB
  have ho' : l.toArray[k + 1]? = some ⟨some t, .move x, ty1, ps1, af1, none⟩ := by rw [← nthO_eq]; exact ho
  have hlt := (Array.getElem?_eq_some_iff.1 ho').1
  intro a w hh
  simp only [RestOf, hro] at h ⊢
  refine wpAny_noPanic _ _ _ _ ?_
  have e1 : l.toArray.size - k = (l.toArray.size - (k + 2) + 1) + 1 := by omega
  rw [e1]
  refine wpAnyIn_take (v := v) rfl ho' h1 h2 h3 (fun _ _ _ h => h.elim) ⟨.inl ⟨rfl, fun w => by simp [execOp, hh.env.eval hx]⟩, fun w => rfl⟩ ?_
  refine ⟨fun h0 => (by rw [h4] at h0; cases h0), fun i hi => ?_⟩
  rw [h4, List.mem_singleton] at hi
  subst hi
  have e2 : ((lk l.toArray.size i).setIfInBounds (i + 1) true).setIfInBounds i true = lk l.toArray.size (i + 2) := by
    rw [Array.setIfInBounds_comm _ _ (by omega), lk_step, lk_step]
  rw [e2]
  exact h _ _ ⟨hh.env.put' (d := some t) hd v, hh.sat⟩

/-- An append to a slice of one's own whose block stands last, as one operation. -/
theorem op_app {s x : Operand} {T e : TypeId} {size bytes : Nat} {pre b : Own} {v : Value} {n : Nat} {xs : List Value} {A : Option Addr} {m cp : Nat} {news : List Value} {t : Tmp} {K : Act → World → Prop}
    (ho : nthO l k = some ⟨some t, .call { callee := .builtin .append, args := #[s, x], argTypes := #[T, T] }, ty, ps, af, g⟩) (hT : AppT c.P T e size bytes) (hv : Env.ev env s = some v) (hx : Env.ev env x = some (.slice A m cp))
    (hd : Nat.blt t c.n = true) (hw : wantedB l.toArray env ⟨some t, .call { callee := .builtin .append, args := #[s, x], argTypes := #[T, T] }, ty, ps, af, g⟩)
    (hS : SlO e size v n xs b) (hl : news.length = m * size) (hnews : ∀ w, Sat c F (pre ++ b) w → ∀ j u, news[j]? = some u → ∃ a, A = some a ∧ w.cell? (a.add j) = some u) (h1 : ∀ u ∈ news, u.oneCell' = true)
    (hm : (n + m) * bytes ≤ 140737488355328) (hm2 : n + m ≤ maxLen)
    (hn : ∀ A' cp' b', SlO e size (.slice A' (n + m) cp') (n + m) (xs ++ news) b' → TK c ((t, .slice A' (n + m) cp') :: env) F (pre ++ b') K) : TK c env F (pre ++ b) (wpOpIn (FR c.ro) 0 c.P l.toArray Q k K) := by
  intro a w hh
  unfold wpOpIn
  have ho' : l.toArray[k]? = some ⟨some t, .call { callee := .builtin .append, args := #[s, x], argTypes := #[T, T] }, ty, ps, af, g⟩ := by rw [← nthO_eq]; exact ho
  simp only [ho', wanted_of hh.env hw, if_true]
  refine ⟨fun _ _ => trivial, ?_⟩
  rw [Oper.semAt_eq _ _ _ (fun _ h => by cases h)]
  have hs0 : Sat c F (pre ++ (b ++ [])) w := by simpa using hh.sat
  obtain ⟨v', w', b', hr, h2, h3⟩ := run_append_sl hT hS hl hs0 (hnews w hh.sat) h1 hm hm2 ty
  unfold execOp
  simp only [resolve, invoke, builtin, Sem.run_bind, Sem.run_pure, Result.andThen_ok, List.map_toArray, List.map_cons, List.map_nil, hh.env.eval hv, hh.env.eval hx]
  rw [hr]
  obtain ⟨A', cp', rfl, _⟩ := h2.slice
  have h3' : Sat c F (pre ++ b') w' := by simpa using h3
  exact hn A' cp' b' h2 _ _ ⟨hh.env.put' (d := some t) (by simpa using hd) _, h3'⟩

theorem tk_rot1 {K : Act → World → Prop} {x : Nat × Obj} {r : Own} (h : TK c env F (r ++ [x]) K) : TK c env F (x :: r) K :=
  tk_perm (List.perm_append_comm (l₁ := [x]) (l₂ := r)) h
theorem smN {kd : Nat → Kind} {Z : Env → List Item → Prop} {N : List Item} (ns : List Item) {i : Nat} {r : List Nat} {o : Oper} {V : Nat → Value → Obj → Prop} {t : Tmp} (hns : Needs l.toArray o N ns) (ho : nthO l i = some o) (hN : ∀ F', Incl F F' → (∀ it ∈ ns, it.holds F') → New c F' own env o V) (ht : o.dst = some t) (hd : Nat.blt t c.n = true)
    (hw : wantedB l.toArray env o) (hn : kd i = .new) (h : ∀ p v ob, V p v ob → SG c l.toArray F own kd Z r ((t, v) :: env) (.own (some t) p ob :: N)) : SG c l.toArray F own kd Z (i :: r) env N :=
  sg_newN ns (by rw [← nthO_eq]; exact ho) (by rw [ht]; exact hd) hw hn hns hN fun p u b hv => by rw [ht]; exact h p u b hv
theorem heldC {c' : Cx} {F' : Know} {own' : Own} {t : Option Tmp} {p : Nat} {cs : List Value} {T : TypeId} {fr : Nat × Nat} {w : World} (hs : Sat c' F' own' w) (h : (Item.own t p (.cells cs.toArray T fr)).holds F') : ∀ j u, cs[j]? = some u → ∃ a, some (⟨p, 0, none⟩ : Addr) = some a ∧ w.cell? (a.add j) = some u :=
  fun j u hu => ⟨_, rfl, by rw [add_mk, Nat.zero_add]; exact hs.know _ _ (holdsK h j u hu)⟩
end
end Go.Eng
