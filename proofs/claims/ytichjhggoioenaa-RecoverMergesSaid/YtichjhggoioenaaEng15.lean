/-
  The engine, part 15: ways that meet again behind a region.
-/
import Derived.Test.YtichjhggoioenaaEng14
namespace Go.Eng
open Go
section
variable {c : Cx} {env : Env} {F : Know} {own : Own} {Q : Exit → Act → World → Prop}
/-- A region whose ways all come to the same: the slot t holds v, what stood in env0 stands. -/
theorem t_merge {x : Code} {env0 : Env} (he : Env.sub env0 env) (t : Nat) (v : Value) (h1 : TK c ((t, v) :: env0) F own (Q .normal)) (h2 : TK c ((t, v) :: env0) F own (Q .normal) → T c env F own x Q) : T c env F own x Q := h2 h1
theorem mb {t : Nat} {e X : Bool} (h : Env.get env t = some (.bool e)) (he : e = X) : Env.get env t = some (.bool X) := by rw [← he]; exact h
theorem mi {t : Nat} {k : IntKind} {e X : Int} (h : Env.get env t = some (.int k e)) (he : e = X) : Env.get env t = some (.int k X) := by rw [← he]; exact h

theorem Sat.less {F' : Know} {w : World} (h : Sat c F own w) (hF : Incl F' F) : Sat c F' own w :=
  ⟨h.keep, fun a v ha => h.know a v (hF a v ha), fun a v ha => h.away a v (hF a v ha), h.nodup, h.ids, h.own⟩
/-- A loop: what is known of memory changes too. -/
theorem t_whileK {x : Code} {σ : Type} (M : σ → Env) (G : σ → Know) (O : σ → Own) (μ : σ → Nat) (I : σ → Prop) (s0 : σ) {env0 : Env} (h0 : I s0) (hG : Incl (G s0) F) (hm : Env.sub (M s0) env) (h1 : Env.sub env0 env) (ho : (O s0).Sublist own)
    (round : ∀ s, I s → T c (M s ++ env0) (G s) (O s) x (Exit.then (fun a w => ∃ s', I s' ∧ μ s' < μ s ∧ Hd c (M s' ++ env0) (G s') (O s') a w) Q)) : T c env F own (.loop x) Q := by
  refine t_loop (fun s => M s ++ env0) G O μ I s0 h0 (fun a w hd => ?_) round
  have hsub : Env.sub (M s0 ++ env0) env := by
    generalize M s0 = m at hm
    induction m with
    | nil => exact h1
    | cons y r ih => obtain ⟨t, v⟩ := y; exact ⟨hm.1, ih hm.2⟩
  have := hd.drop hsub ho
  exact ⟨this.env, this.sat.less hG⟩
theorem loop_backK {σ : Type} {E : σ → Env} {G : σ → Know} {O : σ → Own} {μ : σ → Nat} {I : σ → Prop} {s : σ} (s' : σ) (h0 : I s') (hm : μ s' < μ s) (hG : Incl (G s') F) (he : Env.sub (E s') env) (ho : (O s').Sublist own) :
    TK c env F own (fun a w => ∃ s', I s' ∧ μ s' < μ s ∧ Hd c (E s') (G s') (O s') a w) := fun _ _ hd => ⟨s', h0, hm, (hd.drop he ho).env, (hd.drop he ho).sat.less hG⟩
theorem incl_refl : Incl F F := fun _ _ h => h
/-- A growing slice of one's own that is written no more. -/
theorem tk_freezeS {K : Act → World → Prop} {pre b post : Own} {e : TypeId} {size n : Nat} {A : Option Addr} {cp : Nat} {xs : List Value} (hS : SlO e size (.slice A n cp) n xs b) (hc : c.S = [])
    (h : ∀ F', Incl F F' → Fresh c F F' → (∀ j u, xs[j]? = some u → ∃ a, A = some a ∧ F' (a.add j) = some u) → TK c env F' (pre ++ post) K) : TK c env F (pre ++ (b ++ post)) K := by
  rcases hS.2 with ⟨hv, rfl, rfl⟩ | ⟨p, cap, rest, hv, rfl, _⟩
  · have : xs = [] := List.eq_nil_of_length_eq_zero (by simpa using hS.1)
    subst this
    exact h F (fun _ _ h => h) (fun _ _ h => .inl h) (fun j u hj => by simp at hj)
  · cases hv
    refine tk_freeze hc fun F' h1 h2 h3 => h F' h1 h2 fun j u hj => ⟨_, rfl, ?_⟩
    rw [add_mk, Nat.zero_add]
    exact h3 j u (by rw [List.getElem?_append_left (List.getElem?_eq_some_iff.1 hj).1]; exact hj)
/-- Two growing slices stand last: the other way round. -/
theorem tk_swap {K : Act → World → Prop} {pre b b' : Own} (h : TK c env F (pre ++ (b' ++ b)) K) : TK c env F (pre ++ (b ++ b')) K :=
  tk_perm (List.perm_append_comm.append_left pre) h
theorem tk_freezeL {K : Act → World → Prop} {pre b : Own} {e : TypeId} {size n : Nat} {A : Option Addr} {cp : Nat} {xs : List Value} (hS : SlO e size (.slice A n cp) n xs b) (hc : c.S = [])
    (h : ∀ F', Incl F F' → Fresh c F F' → (∀ j u, xs[j]? = some u → ∃ a, A = some a ∧ F' (a.add j) = some u) → TK c env F' pre K) : TK c env F (pre ++ b) K := by
  have := tk_freezeS (c := c) (env := env) (F := F) (K := K) (pre := pre) (b := b) (post := []) hS hc (by simpa using h)
  simpa using this
end
end Go.Eng
