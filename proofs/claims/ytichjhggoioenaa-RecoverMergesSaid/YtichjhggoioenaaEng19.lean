/-
  The engine, part 19: an append of one element to a slice of one's own that is read afterwards as well.
-/
import Derived.Test.YtichjhggoioenaaEng18
namespace Go.Eng
open Go
section
variable {c : Cx} {env : Env} {F : Know} {own : Own} {Q : Exit → Act → World → Prop}
variable {ty : TypeId} {ps : String} {af : Array Edge} {g : Option (Nat × Bool)} {l : List Oper} {k : Nat}

/-- Values that lie at an address in every world that has these blocks. -/
def Lies (b : Own) (A : Option Addr) (xs : List Value) : Prop :=
  ∀ (c : Cx) (F : Know) (own : Own) (w : World), Sat c F own w → (∀ x ∈ b, x ∈ own) → ∀ j u, xs[j]? = some u → ∃ a, A = some a ∧ w.cell? (a.add j) = some u

theorem lies_cells {p : Nat} {cs rest : List Value} {e : TypeId} {b : Own} (h : (p, Obj.cells (cs ++ rest).toArray e (0, 0)) ∈ b) : Lies b (some ⟨p, 0, none⟩) cs := fun c F own w hs hb j u hj =>
  hs.cellO (hb _ h) (by rw [List.getElem?_append_left (List.getElem?_eq_some_iff.1 hj).1]; exact hj)
theorem SlO.lies {e : TypeId} {size n cp : Nat} {A : Option Addr} {xs : List Value} {b : Own} (h : SlO e size (.slice A n cp) n xs b) : Lies b A xs := by
  rcases h.2 with ⟨_, h0, _⟩ | ⟨p, cap, rest, hv, hb, _⟩
  · have : xs = [] := List.eq_nil_of_length_eq_zero (by rw [h.1, h0, Nat.zero_mul])
    subst this
    exact fun c F own w hs hb j u hj => by simp at hj
  · cases hv
    subst hb
    exact lies_cells List.mem_cons_self
theorem SlO.cap {e : TypeId} {size n cp : Nat} {A : Option Addr} {xs : List Value} {b : Own} (h : SlO e size (.slice A n cp) n xs b) : n ≤ cp ∧ cp ≤ maxLen := by
  rcases h.2 with ⟨hv, h0, _⟩ | ⟨p, cap, rest, hv, hb, h1, h2, _⟩
  · cases hv; exact ⟨Nat.le_refl _, Nat.zero_le _⟩
  · cases hv; exact ⟨h1, h2⟩

theorem oAppB {s x : Operand} {T e : TypeId} {size bytes : Nat} {pre b : Own} {n cp0 : Nat} {xs : List Value} {A0 A : Option Addr} {cp : Nat} {news : List Value} {t : Tmp}
    (ho : nthO l k = some ⟨some t, .call { callee := .builtin .append, args := #[s, x], argTypes := #[T, T] }, ty, ps, af, g⟩) (hT : AppT c.P T e size bytes) (hv : Env.ev env s = some (.slice A0 n cp0)) (hx : Env.ev env x = some (.slice A 1 cp))
    (hd : Nat.blt t c.n = true) (hw : wantedB l.toArray env ⟨some t, .call { callee := .builtin .append, args := #[s, x], argTypes := #[T, T] }, ty, ps, af, g⟩)
    (hn0 : 0 < n) (hS : SlO e size (.slice A0 n cp0) n xs b) (hl : news.length = 1 * size) (hnews : ∀ w, Sat c F (pre ++ b) w → ∀ j u, news[j]? = some u → ∃ a, A = some a ∧ w.cell? (a.add j) = some u) (h1 : ∀ u ∈ news, u.oneCell' = true)
    (hm : (n + 1) * bytes ≤ 140737488355328) (hm2 : n + 1 ≤ maxLen)
    (hn : ∀ A' cp' b', n + 1 ≤ cp' → cp' ≤ maxLen → Lies b' A0 xs → Lies b' A' (xs ++ news) → R c false l.toArray Q (k + 1) ((t, .slice A' (n + 1) cp') :: env) F (pre ++ b')) : R c false l.toArray Q k env F (pre ++ b) := by
  rcases hS.2 with ⟨_, h0, _⟩ | ⟨p, cap, rest, hv0, rfl, h2, h3, h4⟩
  · omega
  · cases hv0
    by_cases hr : n + 1 ≤ cp0
    · refine oAppR (fun h => by cases h) ho hT hv hx hd hw hS.1 h4 hl (by decide) hnews h1 hr ?_
      refine hn _ _ _ hr h3 ?_ ?_
      · exact lies_cells (cs := xs) (rest := news ++ rest.drop news.length) (by rw [List.append_assoc]; exact List.mem_cons_self)
      · exact lies_cells List.mem_cons_self
    · have hc : cp0 = n := by omega
      subst hc
      refine om ho (new_appK (xs := xs) (news := news) (m := 1) hT hv hx hS.1 hl (by decide) (fun w hs => lies_cells List.mem_cons_self _ _ _ _ hs (fun x hx => List.mem_append_right _ hx)) hnews hm hm2) rfl hd hw fun p2 v ob hS2 => ?_
      obtain ⟨A2, c2, rfl, h5, h6, -⟩ := hS2.slice
      have hL := hS2.lies
      refine tk_perm (own' := pre ++ ([(p2, ob)] ++ [(p, .cells (xs ++ rest).toArray e (0, 0))])) ?_ (hn _ _ _ h5 h6 ?_ ?_)
      · have := (List.perm_middle (l₁ := pre) (a := (p2, ob)) (l₂ := [(p, Obj.cells (xs ++ rest).toArray e (0, 0))])).symm
        exact this
      · exact lies_cells (List.mem_cons_of_mem _ List.mem_cons_self)
      · exact fun c F own w hs hb => hL c F own w hs (fun x hx => hb x (by rw [List.mem_singleton] at hx; subst hx; exact List.mem_cons_self))
end
end Go.Eng
