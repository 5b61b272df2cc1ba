/-
  The engine, part 26: appends to a slice of one's own where an elder value of it is read on; loads from what is known to lie in one's own blocks.
-/
import Derived.Test.YtffocfffggfenaaEng23ToEng25
namespace Go.Eng
open Go
section
variable {c : Cx} {env : Env} {F : Know} {own : Own} {Q : Exit → Act → World → Prop}
variable {ty : TypeId} {ps : String} {af : Array Edge} {g : Option (Nat × Bool)} {l : List Oper} {k : Nat} {d : Option Tmp}
theorem det_loadWN {t : TypeId} {n : Nat} {x : Operand} {A : Addr} {r : List Value} (ht : TAgg c.P t n) (hx : Env.ev env x = some (.pointer (some A))) (hr : r.length = n) (hW : ∀ w, Sat c F own w → ∀ j, j < n → w.cell? (A.add j) = r[j]?) : Det c F own env ⟨d, .load t x, ty, ps, af, g⟩ (.agg r.toArray) :=
  det_of fun a ha w hw => by
    have h1 := hW w hw
    simp [execOp, ha.eval hx, run_loadAtN ht hr h1]
/-- An elder value of a growing slice: it is the beginning of the present one, or lies in a block of its own. -/
def Old (b0 : Own) (A0 : Option Addr) (zs : List Value) (A : Option Addr) (xs : List Value) : Prop := (A0 = A ∧ ∃ r, xs = zs ++ r) ∨ Lies b0 A0 zs
theorem Lies.more {b b' : Own} {A : Option Addr} {xs : List Value} (h : Lies b A xs) (hb : ∀ x ∈ b, x ∈ b') : Lies b' A xs := fun c F own w hs hw => h c F own w hs fun x hx => hw x (hb x hx)
theorem Old.start {e : TypeId} {size n cp : Nat} {A : Option Addr} {xs : List Value} {b : Own} (_hS : SlO e size (.slice A n cp) n xs b) : Old [] A xs A xs := .inl ⟨rfl, [], by simp⟩
theorem Old.lies {e : TypeId} {size n cp : Nat} {A0 A : Option Addr} {zs xs : List Value} {b0 b : Own} (h : Old b0 A0 zs A xs) (hS : SlO e size (.slice A n cp) n xs b) : Lies (b0 ++ b) A0 zs := by
  rcases h with ⟨rfl, r, rfl⟩ | h
  · have hL := hS.lies
    intro c F own w hs hb j u hj
    exact hL c F own w hs (fun x hx => hb x (List.mem_append_right _ hx)) j u (by rw [List.getElem?_append_left (List.getElem?_eq_some_iff.1 hj).1]; exact hj)
  · exact h.more fun x hx => List.mem_append_left _ hx
theorem oAppK {s x : Operand} {T e : TypeId} {size bytes : Nat} {pre b0 b : Own} {n cp0 : Nat} {xs zs : List Value} {A0 A1 A : Option Addr} {cp : Nat} {news : List Value} {t : Tmp}
    (ho : nthO l k = some ⟨some t, .call { callee := .builtin .append, args := #[s, x], argTypes := #[T, T] }, ty, ps, af, g⟩) (hT : AppT c.P T e size bytes) (hv : Env.ev env s = some (.slice A1 n cp0)) (hx : Env.ev env x = some (.slice A 1 cp))
    (hd : Nat.blt t c.n = true) (hw : wantedB l.toArray env ⟨some t, .call { callee := .builtin .append, args := #[s, x], argTypes := #[T, T] }, ty, ps, af, g⟩)
    (hS : SlO e size (.slice A1 n cp0) n xs b) (hO : Old b0 A0 zs A1 xs) (hl : news.length = 1 * size) (hnews : ∀ w, Sat c F (pre ++ (b0 ++ b)) w → ∀ j u, news[j]? = some u → ∃ a, A = some a ∧ w.cell? (a.add j) = some u) (h1 : ∀ u ∈ news, u.oneCell' = true)
    (hm : (n + 1) * bytes ≤ 140737488355328) (hm2 : n + 1 ≤ maxLen)
    (hn : ∀ A' cp' b0' b', SlO e size (.slice A' (n + 1) cp') (n + 1) (xs ++ news) b' → Old b0' A0 zs A' (xs ++ news) → R c false l.toArray Q (k + 1) ((t, .slice A' (n + 1) cp') :: env) F (pre ++ (b0' ++ b'))) : R c false l.toArray Q k env F (pre ++ (b0 ++ b)) := by
  have hS0 := hS
  rcases hS.2 with ⟨hv0, h0, hb0⟩ | ⟨p, cap, rest, hv0, hb0, h2, h3, h4⟩
  · have hx0 : xs = [] := List.eq_nil_of_length_eq_zero (by rw [hS.1, h0, Nat.zero_mul])
    rw [← List.append_assoc] at hnews ⊢
    refine oAppS (fun h => by cases h) ho hT hv hx hd hw hS hl hnews h1 hm hm2 fun A' cp' b' hS' => ?_
    rw [List.append_assoc]
    refine hn A' cp' b0 b' hS' (.inr ?_)
    rcases hO with ⟨_, r, hr⟩ | hO
    · rw [hx0] at hr
      have hz : zs = [] := by cases zs with | nil => rfl | cons _ _ => cases hr
      subst hz
      exact fun c F own w hs hb j u hj => by simp at hj
    · exact hO
  · cases hv0
    subst hb0
    by_cases hr : n + 1 ≤ cp0
    · rw [← List.append_assoc] at hnews ⊢
      refine oAppR (fun h => by cases h) ho hT hv hx hd hw hS.1 h4 hl (by decide) hnews h1 hr ?_
      rw [List.append_assoc]
      refine hn _ _ b0 _ ⟨by rw [List.length_append, hS.1, hl, Nat.add_mul], .inr ⟨p, cp0, rest.drop news.length, rfl, rfl, hr, h3, ?_⟩⟩ ?_
      · have h5 : rest.length = cp0 * size - n * size := by have := h4; rw [List.length_append, hS.1] at this; omega
        have h6 : (n + 1) * size ≤ cp0 * size := Nat.mul_le_mul_right _ hr
        rw [List.length_append, List.length_append, hS.1, List.length_drop, h5, hl]
        rw [Nat.add_mul] at h6
        omega
      · rcases hO with ⟨hA, r, hr⟩ | hO
        · exact .inl ⟨hA, r ++ news, by rw [hr, List.append_assoc]⟩
        · exact .inr hO
    · have hc : cp0 = n := by omega
      subst hc
      refine om ho (new_appK (xs := xs) (news := news) (m := 1) hT hv hx hS.1 hl (by decide) (fun w hs => lies_cells List.mem_cons_self _ _ _ _ hs (fun x hx => List.mem_append_right _ (List.mem_append_right _ hx))) hnews hm hm2) rfl hd hw fun p2 v ob hS2 => ?_
      obtain ⟨A2, c2, rfl, h5, h6, -⟩ := hS2.slice
      refine tk_perm (own' := pre ++ ((b0 ++ [(p, .cells (xs ++ rest).toArray e (0, 0))]) ++ [(p2, ob)])) ?_ (hn _ _ _ _ hS2 (.inr ?_))
      · have e1 : pre ++ ((b0 ++ [(p, Obj.cells (xs ++ rest).toArray e (0, 0))]) ++ [(p2, ob)]) = (pre ++ (b0 ++ [(p, Obj.cells (xs ++ rest).toArray e (0, 0))])) ++ [(p2, ob)] := by simp
        rw [e1]
        exact (List.perm_append_singleton _ _).symm
      · rcases hO with ⟨rfl, r, rfl⟩ | hO
        · exact lies_cells (rest := r ++ rest) (by rw [List.append_assoc]; exact List.mem_append_right _ List.mem_cons_self)
        · exact hO.more fun x hx => List.mem_append_left _ hx
/-- The growing slice is written no more; the elder blocks stay. -/
theorem tk_freezeM {K : Act → World → Prop} {pre b0 b : Own} {e : TypeId} {size n : Nat} {A : Option Addr} {cp : Nat} {xs : List Value} (hS : SlO e size (.slice A n cp) n xs b) (hc : c.S = [])
    (h : ∀ F', Incl F F' → Fresh c F F' → (∀ j u, xs[j]? = some u → ∃ a, A = some a ∧ F' (a.add j) = some u) → TK c env F' (pre ++ b0) K) : TK c env F (pre ++ (b0 ++ b)) K := by
  rw [← List.append_assoc]
  exact tk_freezeL hS hc h
/-- The growing slice out of the middle, to the end and back. -/
theorem tk_outB {K : Act → World → Prop} {pre b post : Own} (h : TK c env F ((pre ++ post) ++ b) K) : TK c env F ((pre ++ b) ++ post) K := by
  refine tk_perm ?_ h
  rw [List.append_assoc, List.append_assoc]
  exact List.perm_append_comm.append_left pre
theorem tk_inB {K : Act → World → Prop} {news pre b post : Own} (h : TK c env F (news ++ ((pre ++ b) ++ post)) K) : TK c env F (((news ++ pre) ++ post) ++ b) K := by
  refine tk_perm ?_ h
  rw [List.append_assoc, List.append_assoc, List.append_assoc]
  exact ((List.perm_append_comm (l₁ := post) (l₂ := b)).append_left pre).append_left news
end
end Go.Eng
