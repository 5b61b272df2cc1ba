/-
  The engine, part 11: an `extract` that is unordered with a later operation is taken ahead of it.
-/
import Derived.Test.YtichjhggoioenaaEng10
namespace Go.Eng
open Go
section
variable {P : Program} {md : Region.Mode} {ops : Array Oper} {Q : Exit → Act → World → Prop}
/-- Operation j waits for operation i too. -/
def force (ops : Array Oper) (i j : Nat) : Array Oper := ops.modify j fun o => { o with after := o.after.push ⟨i, .data⟩ }
theorem force_get {i j k : Nat} : (force ops i j)[k]? = (ops[k]?).map fun o => if j = k then { o with after := o.after.push ⟨i, .data⟩ } else o := by
  rw [force, Array.getElem?_modify]
  split <;> simp
theorem force_dst {i j k : Nat} : ((force ops i j)[k]?).bind (·.dst) = (ops[k]?).bind (·.dst) := by
  rw [force_get]
  cases ops[k]? with
  | none => rfl
  | some o => simp only [Option.map_some, Option.bind_some]; split <;> rfl
theorem force_yielded {i j : Nat} {t : Array Value} : yielded (force ops i j) t = yielded ops t := by
  funext k
  unfold yielded
  rw [force_dst]
theorem force_wpOp {i j k : Nat} {K : Act → World → Prop} {a : Act} {w : World} : wpOpIn (FR none) 0 P (force ops i j) Q k K a w = wpOpIn (FR none) 0 P ops Q k K a w := by
  unfold wpOpIn
  rw [force_get, force_yielded]
  cases ops[k]? with
  | none => rfl
  | some o =>
    simp only [Option.map_some]
    split <;> rfl
def noPanic (Q : Exit → Act → World → Prop) : Exit → Act → World → Prop
  | .panic _, _, _ => False
  | e, a, w => Q e a w
theorem LetsOut_noPanic (h : LetsOut (noPanic Q)) : LetsOut Q := h
theorem upon_noPanic {o : Oper} {a : Act} {K : Act → World → Prop} {r : Result Next} (h : o.uponIn (FR none) 0 P a K (noPanic Q) r) : o.uponIn (FR none) 0 P a K Q r := by
  cases r with
  | ok n w' =>
    cases n <;> simp only [Oper.uponIn] at h ⊢ <;> try exact h
    case enter f args =>
      refine ⟨h.1, CallsIn.mono h.2 fun e w'' he => ?_⟩
      cases e with
      | returned u => exact he
      | panicked c => exact he.elim
      | outgrown => exact he
    case round l f tmps asg body =>
      refine ⟨h.1, RoundIn.mono h.2 fun e w'' he => ?_⟩
      cases e with
      | returned u => exact he
      | panicked c => exact he.elim
      | outgrown => exact he
  | halt x w' =>
    cases x <;> simp only [Oper.uponIn] at h ⊢ <;> try exact h
    case panic u => exact h.elim
theorem wpOp_noPanic {k : Nat} {K : Act → World → Prop} {a : Act} {w : World} (h : wpOpIn (FR none) 0 P ops (noPanic Q) k K a w) : wpOpIn (FR none) 0 P ops Q k K a w := by
  unfold wpOpIn at *
  cases ho : ops[k]? with
  | none => rw [ho] at h; exact h
  | some o =>
    rw [ho] at h
    simp only at h ⊢
    split
    · rename_i hw
      rw [if_pos hw] at h
      exact ⟨h.1, upon_noPanic h.2⟩
    · rename_i hw
      rw [if_neg hw] at h
      exact h
theorem wpAny_noPanic : ∀ (fuel : Nat) (listed : Array Bool) (a : Act) (w : World), wpAnyIn (FR none) 0 P md ops (noPanic Q) fuel listed a w → wpAnyIn (FR none) 0 P md ops Q fuel listed a w
  | 0, _, _, _, h => h
  | fuel + 1, _, _, _, h => ⟨h.1, fun i hi => wpOpIn_mono (fun a w h => wpAny_noPanic fuel _ a w h) (wpOp_noPanic (h.2 i hi))⟩
/-- An operation that looks at no memory and always ends. -/
def isCalm (o : Oper) : Prop := (∃ t n, o.op = .extract t n) ∨ ∃ x, o.op = .move x
/-- What an `extract` does: it yields, or it is stuck; no room is asked for. -/
theorem extract_shape {o : Oper} (a : Act) (ho : isCalm o) : (∃ v, execOp a.eval o = .pure (.value v)) ∨ ∃ s, execOp a.eval o = .halt s ∧ ∀ u, s ≠ .panic u := by
  rcases ho with ⟨t, n, ho⟩ | ⟨x, ho⟩
  rotate_left
  · exact .inl ⟨a.eval x, by simp only [execOp, ho]; rfl⟩
  simp only [execOp, ho, Instr.extract]
  split
  · split
    · exact .inl ⟨_, rfl⟩
    · exact .inr ⟨_, rfl, by simp⟩
  · exact .inr ⟨_, rfl, by simp⟩
theorem extract_yields {o : Oper} {i : Nat} {K : Act → World → Prop} {a : Act} {w : World} (hi : ops[i]? = some o) (ho : isCalm o)
    (h : wpOpIn (FR none) 0 P ops (noPanic Q) i K a w) : ∃ v, YieldsFenced P ops o v a ∧ K (a.put o.dst v) w := by
  unfold wpOpIn at h
  rw [hi] at h
  simp only at h
  split at h
  · rename_i hw
    rcases extract_shape a ho with ⟨v, hv⟩ | ⟨s, hs, hp⟩
    · refine ⟨v, ⟨.inl ⟨hw, fun w => by rw [hv]; rfl⟩, fun w => by unfold Oper.about; rcases ho with ⟨t, n, ho⟩ | ⟨x, ho⟩ <;> rw [ho]⟩, ?_⟩
      have h := h.2
      rw [show (FR none).round = none from rfl, Oper.semAt_none, hv] at h; exact h
    · have h := h.2
      rw [show (FR none).round = none from rfl, Oper.semAt_none, hs] at h
      cases s <;> first | exact h.elim | exact (hp _ rfl).elim
  · rename_i hw
    exact ⟨undef, ⟨.inr ⟨by simpa using hw, rfl⟩, fun w => by unfold Oper.about; rcases ho with ⟨t, n, ho⟩ | ⟨x, ho⟩ <;> rw [ho]⟩, h.2⟩
/-- Operation i is an `extract` that may be taken ahead of j as soon as it is ready. -/
def forceB (md : Region.Mode) (ops : Array Oper) (i j : Nat) : Bool :=
  Region.noSelect ops && i != j && match ops[i]?, ops[j]? with
  | some oi, some oj => (match oi.op with | .extract .. => true | .move _ => true | _ => false) &&
      oi.after.all (fun e => !Region.binds md e || oj.after.any fun e' => Region.binds md e' && e'.on == e.on) &&
      (List.range ops.size).all fun k => k == i || oi.after.any (fun e => Region.binds md e && e.on == k) || match ops[k]? with
        | some o => o.after.any (fun e => Region.binds md e && e.on == i) || oi.apart ops o
        | none => true
  | _, _ => false
theorem wpAny_force {i j : Nat} (hB : forceB md ops i j = true) : ∀ (fuel : Nat) (listed : Array Bool) (a : Act) (w : World), ops.size ≤ listed.size → wpAnyIn (FR none) 0 P md (force ops i j) (noPanic Q) fuel listed a w → wpAnyIn (FR none) 0 P md ops (noPanic Q) fuel listed a w := by
  unfold forceB at hB
  rw [Bool.and_eq_true, Bool.and_eq_true] at hB
  obtain ⟨⟨hns, hne⟩, hB⟩ := hB
  have hne : i ≠ j := by simpa using hne
  split at hB
  case h_2 => cases hB
  rename_i oi oj hi hj
  rw [Bool.and_eq_true, Bool.and_eq_true] at hB
  obtain ⟨⟨hx, hd⟩, hf⟩ := hB
  have ho : isCalm oi := by
    split at hx
    · rename_i t n h; exact .inl ⟨t, n, h⟩
    · rename_i x h; exact .inr ⟨x, h⟩
    · cases hx
  have hd : ∀ e ∈ oi.after, Region.binds md e = true → ∃ e' ∈ oj.after, Region.binds md e' = true ∧ e'.on = e.on := by
    intro e he hb
    have := Array.all_eq_true_iff_forall_mem.1 hd e he
    simp only [hb, Bool.not_true, Bool.false_or] at this
    obtain ⟨e', he', h⟩ := Array.any_eq_true'.1 this
    simp only [Bool.and_eq_true, beq_iff_eq] at h
    exact ⟨e', he', h⟩
  have hfi : (force ops i j)[i]? = some oi := by rw [force_get, hi]; simp [Ne.symm hne]
  -- readiness
  have hri : ∀ listed, i ∈ Region.ready md ops listed → i ∈ Region.ready md (force ops i j) listed := by
    intro listed h
    rw [mem_ready] at *
    obtain ⟨h0, o, ho', hall⟩ := h
    rw [hi] at ho'; cases ho'
    exact ⟨h0, oi, hfi, hall⟩
  have hrk : ∀ listed : Array Bool, ops.size ≤ listed.size → i ∉ Region.ready md ops listed → ∀ k ∈ Region.ready md ops listed, k ∈ Region.ready md (force ops i j) listed := by
    intro listed hsz hn k h
    rw [mem_ready] at h ⊢
    obtain ⟨h0, o, ho', hall⟩ := h
    refine ⟨h0, if j = k then { o with after := o.after.push ⟨i, .data⟩ } else o, by rw [force_get, ho']; rfl, ?_⟩
    by_cases hjk : j = k
    · subst hjk
      rw [hj] at ho'; cases ho'
      rw [if_pos rfl]
      intro e he hb
      rcases Array.mem_push.1 he with he | rfl
      · exact hall e he hb
      · refine Classical.byContradiction fun hc => hn ?_
        have hu : listed.getD i true = false := by
          rcases Nat.lt_or_ge i listed.size with h' | h'
          · simp [h'] at hc ⊢; exact hc
          · have := (Array.getElem?_eq_some_iff.1 hi).1; omega
        refine mem_ready.2 ⟨hu, oi, hi, fun e he hb => ?_⟩
        obtain ⟨e', he', hb', hon⟩ := hd e he hb
        rw [← hon]; exact hall e' he' hb'
    · rw [if_neg hjk]; exact hall
  intro fuel
  induction fuel with
  | zero =>
    intro listed a w hsz h
    refine ⟨?_, h.2⟩
    have h1 := h.1
    refine List.eq_nil_iff_forall_not_mem.2 fun k hk => ?_
    by_cases hir : i ∈ Region.ready md ops listed
    · have := hri _ hir; rw [h1] at this; cases this
    · have := hrk _ hsz hir k hk; rw [h1] at this; cases this
  | succ fuel ih =>
    intro listed a w hsz h
    by_cases hir : i ∈ Region.ready md ops listed
    · have h1 := h.2 i (hri _ hir)
      rw [force_wpOp] at h1
      obtain ⟨v, hy, hK⟩ := extract_yields hi ho h1
      refine wpAnyIn_first rfl hi (Region.noSelect_spec hns) (fun _ _ _ h => h.elim) fuel listed a w ?_ hir hy (ih _ _ _ (by simpa using hsz) hK)
      intro k ok hk hki hun hno
      have h2 := (List.all_eq_true.1 hf) k (List.mem_range.2 (Array.getElem?_eq_some_iff.1 hk).1)
      simp only [hk, Bool.or_eq_true, beq_iff_eq, hki, false_or] at h2
      rcases h2 with h2 | h2 | h2
      · obtain ⟨e, he, hb⟩ := Array.any_eq_true'.1 h2
        simp only [Bool.and_eq_true, beq_iff_eq] at hb
        obtain ⟨_, o, ho', hall⟩ := mem_ready.1 hir
        rw [hi] at ho'; cases ho'
        have := hall e he hb.1
        rw [hb.2] at this
        rcases Nat.lt_or_ge k listed.size with h' | h'
        · simp [h'] at this hun; rw [hun] at this; cases this
        · simp [Array.getElem?_eq_none h'] at this
      · obtain ⟨e, he, hb⟩ := Array.any_eq_true'.1 h2
        simp only [Bool.and_eq_true, beq_iff_eq] at hb
        exact absurd hb.2 (hno e he hb.1)
      · exact h2
    · refine ⟨fun h0 => ?_, fun k hk => ?_⟩
      · have h3 : Region.ready md (force ops i j) listed = [] := by
          refine List.eq_nil_iff_forall_not_mem.2 fun k hk => ?_
          have : k ∈ Region.ready md ops listed := by
            rw [mem_ready] at hk ⊢
            obtain ⟨g0, o, go, gall⟩ := hk
            rw [force_get] at go
            cases hk' : ops[k]? with
            | none => rw [hk'] at go; cases go
            | some o' =>
              rw [hk'] at go
              simp only [Option.map_some, Option.some.injEq] at go
              refine ⟨g0, o', rfl, fun e he hb => gall e ?_ hb⟩
              rw [← go]
              split
              · exact Array.mem_push.2 (.inl he)
              · exact he
          rw [h0] at this; cases this
        exact h.1 h3
      · have h1 := h.2 k (hrk _ hsz hir k hk)
        rw [force_wpOp] at h1
        exact wpOpIn_mono (fun a w h => ih _ _ _ (by simpa using hsz) h) h1
end
theorem force_size {ops : Array Oper} {i j : Nat} : (force ops i j).size = ops.size := by simp [force]
/-- An `extract` is taken ahead of an operation that it is unordered with. -/
theorem r_force {c : Cx} {ops : Array Oper} {Q : Exit → Act → World → Prop} {k : Nat} {env : Env} {F : Know} {own : Own} (i j : Nat) (hB : forceB .any ops i j = true)
    (h : R c true (force ops i j) (noPanic Q) k env F own) (hro : c.ro = none := by rfl) : R c true ops Q k env F own := fun a w hd => by
  have h1 := h a w hd
  simp only [RestOf, force_size, hro] at h1
  simp only [RestOf, hro]
  exact wpAny_noPanic _ _ _ _ (wpAny_force hB _ _ _ _ (by rw [lk_size]; exact Nat.le_refl _) h1)
theorem np {c : Cx} {Q : Exit → Act → World → Prop} {env : Env} {F : Know} {own : Own} (h : TK c env F own (Q .normal)) : TK c env F own (noPanic Q .normal) := h
end Go.Eng
