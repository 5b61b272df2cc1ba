/-
  The engine, part 17: a move that is unordered with what stands ahead of it is taken in its place.
-/
import Derived.Test.YtichjhggoioenaaEng16
namespace Go.Eng
open Go
section
variable {P : Program} {md : Region.Mode} {ops : Array Oper} {Q : Exit → Act → World → Prop}

/-- The other direction of `wpOpIn_put`. -/
theorem wpOp_put_rev {k : Nat} {oi ok : Oper} {v : Value} {x : Operand} {K K2 : Act → World → Prop} {a : Act} {w : World} (hx : ∀ d, ok.dst = some d → x ≠ .tmp d) (hk : ops[k]? = some ok) (hap : oi.apart ops ok = true) (hs : ∀ cs b, ok.op ≠ .select cs b)
    (hK : ∀ a' w', a'.eval x = a.eval x → K2 a' w' → K (a'.put oi.dst v) w') (h : wpOpIn (FR none) 0 P ops (noPanic Q) k K2 a w) : wpOpIn (FR none) 0 P ops (noPanic Q) k K (a.put oi.dst v) w := by
  obtain ⟨h1, h2, h3⟩ := Oper.apart_spec hap
  unfold wpOpIn at h ⊢
  simp only [hk] at h ⊢
  rw [wanted_put ok a oi.dst v h1]
  have ex : ∀ u, (a.put ok.dst u).eval x = a.eval x := fun u => Act.eval_put hx
  have pc : ∀ u, ((a.put oi.dst v).put ok.dst u) = (a.put ok.dst u).put oi.dst v := fun u => Act.put_comm a v u h2
  split
  · rename_i hw
    rw [if_pos hw] at h
    refine ⟨fun _ _ => trivial, ?_⟩
    have h := h.2
    rw [show (FR none).round = none from rfl, Oper.semAt_none] at h ⊢
    rw [execOp_put (ops := ops) ok hs a oi.dst v h1]
    generalize (execOp a.eval ok).run P w = r at h ⊢
    cases r with
    | halt x w' => cases x <;> simp only [Oper.uponIn] at h ⊢ <;> first | exact h | exact h.elim
    | ok nx w' =>
      cases nx <;> simp only [Oper.uponIn] at h ⊢
      case value u => rw [pc]; exact hK _ _ (ex _) h
      case skip => rw [pc]; exact hK _ _ (ex _) h
      case defer d =>
        have e : ({ a.put oi.dst v with defers := d :: (a.put oi.dst v).defers } : Act).put ok.dst undef = ({ a with defers := d :: a.defers }.put ok.dst undef).put oi.dst v := by
          have := Act.put_comm { a with defers := d :: a.defers } v undef h2
          rw [← this]
          cases oi.dst <;> rfl
        have ed : ({ a with defers := d :: a.defers }.put ok.dst undef).eval x = a.eval x := by
          rw [Act.eval_put hx]; cases x <;> rfl
        rw [e]; exact hK _ _ ed h
      case enter f args =>
        refine ⟨h.1, CallsIn.mono h.2 fun e w'' he => ?_⟩
        cases e with
        | returned u => dsimp only at he ⊢; rw [pc]; exact hK _ _ (ex _) he
        | panicked c => exact he.elim
        | outgrown => exact he
      case row row args =>
        refine ⟨h.1, RowsIn.mono h.2 fun u w'' he => ?_⟩
        rw [pc]; exact hK _ _ (ex _) he
      case round l f tmps asg body =>
        refine ⟨h.1, RoundIn.mono h.2 fun e w'' he => ?_⟩
        cases e with
        | returned u => dsimp only at he ⊢; rw [pc]; exact hK _ _ (ex _) he
        | panicked c => exact he.elim
        | outgrown => exact he
      all_goals exact h.elim
  · rename_i hw
    rw [if_neg hw] at h
    refine ⟨fun _ _ => trivial, ?_⟩
    rw [pc]; exact hK _ _ (ex _) h.2

/-- Operation i, a move, may wait for operation j too. -/
def lateB (md : Region.Mode) (ops : Array Oper) (i j : Nat) : Bool :=
  Region.noSelect ops && decide (j < i) && decide (i < ops.size) && match ops[i]? with
  | some oi => oi.guard.isNone && (match oi.op with | .move _ => true | _ => false) &&
      (List.range ops.size).all fun k => match ops[k]? with
        | some o => o.after.all (fun e => !Region.binds md e || decide (e.on < k)) && (k == i || oi.after.any (fun e => Region.binds md e && e.on == k) ||
            (if o.after.any (fun e => Region.binds md e && e.on == i) then o.after.any (fun e => Region.binds md e && e.on == j) else oi.apart ops o))
        | none => true
  | none => false

theorem ready_late {i j k : Nat} {listed : Array Bool} (hne : k ≠ i) : k ∈ Region.ready md (force ops j i) listed ↔ k ∈ Region.ready md ops listed := by
  rw [mem_ready, mem_ready, force_get]
  constructor
  · rintro ⟨h0, o, ho, hall⟩
    cases hk : ops[k]? with
    | none => rw [hk] at ho; cases ho
    | some o' => rw [hk] at ho; simp only [Option.map_some, if_neg (Ne.symm hne), Option.some.injEq] at ho; subst ho; exact ⟨h0, _, rfl, hall⟩
  · rintro ⟨h0, o, ho, hall⟩
    exact ⟨h0, o, by rw [ho]; simp [Ne.symm hne], hall⟩
theorem ready_late_i {i j : Nat} {listed : Array Bool} : i ∈ Region.ready md (force ops j i) listed ↔ i ∈ Region.ready md ops listed ∧ (Region.binds md ⟨j, .data⟩ = true → listed.getD j false = true) := by
  rw [mem_ready, mem_ready, force_get]
  constructor
  · rintro ⟨h0, o, ho, hall⟩
    cases hk : ops[i]? with
    | none => rw [hk] at ho; cases ho
    | some o' =>
      rw [hk] at ho
      simp only [Option.map_some, if_true, Option.some.injEq] at ho
      subst ho
      exact ⟨⟨h0, o', rfl, fun e he => hall e (Array.mem_push.2 (.inl he))⟩, fun hb => hall ⟨j, .data⟩ (Array.mem_push.2 (.inr rfl)) hb⟩
  · rintro ⟨⟨h0, o, ho, hall⟩, hj⟩
    refine ⟨h0, { o with after := o.after.push ⟨j, .data⟩ }, by rw [ho]; simp, fun e he hb => ?_⟩
    rcases Array.mem_push.1 he with he | rfl
    · exact hall e he hb
    · exact hj hb

theorem late_same {i j : Nat} : ∀ (fuel : Nat) (listed : Array Bool) (a : Act) (w : World), listed.getD i true = true → wpAnyIn (FR none) 0 P md (force ops j i) (noPanic Q) fuel listed a w → wpAnyIn (FR none) 0 P md ops (noPanic Q) fuel listed a w := by
  have key : ∀ (listed : Array Bool), listed.getD i true = true → ∀ k, k ∈ Region.ready md ops listed → k ∈ Region.ready md (force ops j i) listed := by
    intro listed hi k hk
    have hne : k ≠ i := by rintro rfl; have := (mem_ready.1 hk).1; rw [hi] at this; cases this
    exact (ready_late hne).2 hk
  have key2 : ∀ (listed : Array Bool), listed.getD i true = true → Region.ready md ops listed = [] → Region.ready md (force ops j i) listed = [] := by
    intro listed hi h0
    refine List.eq_nil_iff_forall_not_mem.2 fun k hk => ?_
    have hne : k ≠ i := by rintro rfl; have := (mem_ready.1 hk).1; rw [hi] at this; cases this
    have := (ready_late hne).1 hk
    rw [h0] at this; cases this
  have key3 : ∀ (listed : Array Bool) k, listed.getD i true = true → (listed.setIfInBounds k true).getD i true = true := by
    intro listed k h
    by_cases hk : k = i
    · subst hk; exact getD_set_self
    · rw [getD_set_ne true hk]; exact h
  intro fuel
  induction fuel with
  | zero =>
    intro listed a w hi h
    refine ⟨List.eq_nil_iff_forall_not_mem.2 fun k hk => ?_, h.2⟩
    have := key listed hi k hk
    rw [h.1] at this; cases this
  | succ fuel ih =>
    intro listed a w hi h
    refine ⟨fun h0 => h.1 (key2 listed hi h0), fun k hk => ?_⟩
    have := h.2 k (key listed hi k hk)
    rw [force_wpOp] at this
    exact wpOpIn_mono (fun a w h => ih _ a w (key3 listed k hi) h) this

theorem wpAny_late {i j : Nat} {oi : Oper} {x : Operand} (hoi : ops[i]? = some oi) (hm : oi.op = .move x) (hg : oi.guard = none) (hji : j < i) (hsel : Region.noSelect ops = true) (hbd : Region.binds md ⟨j, .data⟩ = true)
    (htop : ∀ k o, ops[k]? = some o → ∀ e ∈ o.after, Region.binds md e = true → e.on < k)
    (hap : ∀ k o, ops[k]? = some o → k ≠ i → (∀ e ∈ oi.after, Region.binds md e = true → e.on ≠ k) → (∃ e ∈ o.after, Region.binds md e = true ∧ e.on = i) ∧ (∃ e ∈ o.after, Region.binds md e = true ∧ e.on = j) ∨ (∀ e ∈ o.after, Region.binds md e = true → e.on ≠ i) ∧ oi.apart ops o = true) :
    ∀ (fuel : Nat) (listed : Array Bool), listed.size = ops.size → Few ops.size listed fuel →
      (listed.getD i true = false → ∀ a w, wpAnyIn (FR none) 0 P md (force ops j i) (noPanic Q) fuel listed a w → wpAnyIn (FR none) 0 P md ops (noPanic Q) fuel listed a w) ∧
      (listed.getD j true = false → i ∈ Region.ready md ops listed → ∀ a w, ∀ f, fuel = f + 1 → wpAnyIn (FR none) 0 P md (force ops j i) (noPanic Q) fuel listed a w → wpAnyIn (FR none) 0 P md ops (noPanic Q) f (listed.setIfInBounds i true) (a.put oi.dst (a.eval x)) w) := by
  have hin : i < ops.size := (Array.getElem?_eq_some_iff.1 hoi).1
  have hlt : ∀ (listed : Array Bool) k, listed.size = ops.size → k < ops.size → listed.getD k true = listed.getD k false := by
    intro listed k h1 h2
    have : k < listed.size := by omega
    simp [this]
  have hself : ∀ cs b, oi.op ≠ .select cs b := fun cs b => Region.noSelect_spec hsel i oi cs b hoi
  -- a move
  have hY : ∀ (a : Act) (w : World) (K : Act → World → Prop), K (a.put oi.dst (a.eval x)) w → wpOpIn (FR none) 0 P ops (noPanic Q) i K a w := by
    intro a w K h
    unfold wpOpIn
    simp only [hoi]
    have hwn : Region.wanted oi (yielded ops a.tmps) = true := by unfold Region.wanted; rw [hg]
    rw [if_pos hwn]
    refine ⟨fun _ _ => trivial, ?_⟩
    rw [show (FR none).round = none from rfl, Oper.semAt_none]
    simp only [execOp, hm, Sem.run_pure, Oper.uponIn]
    exact h
  have hY2 : ∀ (a : Act) (w : World) (K : Act → World → Prop), wpOpIn (FR none) 0 P ops (noPanic Q) i K a w → K (a.put oi.dst (a.eval x)) w := by
    intro a w K h
    unfold wpOpIn at h
    simp only [hoi] at h
    have hwn : Region.wanted oi (yielded ops a.tmps) = true := by unfold Region.wanted; rw [hg]
    rw [if_pos hwn] at h
    have h := h.2
    rw [show (FR none).round = none from rfl, Oper.semAt_none] at h
    simp only [execOp, hm, Sem.run_pure, Oper.uponIn] at h
    exact h
  -- something may come up as long as not all has
  have some_ready : ∀ (listed : Array Bool), listed.size = ops.size → (∃ k, k < ops.size ∧ listed.getD k true = false) → Region.ready md (force ops j i) listed ≠ [] := by
    intro listed hsz ⟨k, hk, hkl⟩ h0
    have key : ∀ n k, k < n → k < ops.size → listed.getD k true = false → False := by
      intro n
      induction n with
      | zero => intro k h; omega
      | succ n ih =>
        intro k hkn hk hkl
        have hok : ops[k]? = some ops[k] := Array.getElem?_eq_getElem hk
        have : k ∈ Region.ready md (force ops j i) listed := by
          by_cases hki : k = i
          · subst hki
            refine ready_late_i.2 ⟨mem_ready.2 ⟨hkl, _, hok, fun e he hb => ?_⟩, fun _ => ?_⟩
            · have h1 := htop _ _ hok e he hb
              cases hc : listed.getD e.on false with
              | true => rfl
              | false => exact (ih e.on (by omega) (by omega) (by rw [hlt listed e.on hsz (by omega)]; exact hc)).elim
            · cases hc : listed.getD j false with
              | true => rfl
              | false => exact (ih j (by omega) (by omega) (by rw [hlt listed j hsz (by omega)]; exact hc)).elim
          · refine (ready_late hki).2 (mem_ready.2 ⟨hkl, _, hok, fun e he hb => ?_⟩)
            have h1 := htop _ _ hok e he hb
            cases hc : listed.getD e.on false with
            | true => rfl
            | false => exact (ih e.on (by omega) (by omega) (by rw [hlt listed e.on hsz (by omega)]; exact hc)).elim
        rw [h0] at this; cases this
    exact key (k + 1) k (by omega) hk hkl
  intro fuel
  induction fuel with
  | zero =>
    intro listed hsz hfew
    have hall : ∀ k, k < ops.size → listed.getD k true = true := by
      intro k hk
      cases hc : listed.getD k true with
      | true => rfl
      | false => have := hfew [k] (by simp) (by intro m hm; simp at hm; subst hm; exact ⟨hk, hc⟩); simp at this
    refine ⟨fun hi => ?_, fun hj hi a w f hf => by omega⟩
    rw [hall i hin] at hi; cases hi
  | succ fuel ih =>
    intro listed hsz hfew
    have hB : listed.getD j true = false → i ∈ Region.ready md ops listed → ∀ a w, wpAnyIn (FR none) 0 P md (force ops j i) (noPanic Q) (fuel + 1) listed a w → wpAnyIn (FR none) 0 P md ops (noPanic Q) fuel (listed.setIfInBounds i true) (a.put oi.dst (a.eval x)) w := by
      intro hj hir a w h
      have hiu := (mem_ready.1 hir).1
      have hjn : j < ops.size := by omega
      cases fuel with
      | zero =>
        exfalso
        have := hfew [i, j] (by simp; omega) (by
          intro m hm
          rcases List.mem_cons.1 hm with rfl | hm
          · exact ⟨hin, hiu⟩
          · rcases List.mem_cons.1 hm with rfl | hm
            · exact ⟨hjn, hj⟩
            · cases hm)
        simp at this
      | succ f =>
        have hni : i ∉ Region.ready md (force ops j i) listed := fun hm => by
          have h1 := (ready_late_i.1 hm).2 hbd
          have : j < listed.size := by omega
          simp [this] at h1 hj
          rw [h1] at hj; cases hj
        refine ⟨fun h0 => ?_, fun k hk => ?_⟩
        · exfalso
          obtain ⟨k, hk⟩ := List.exists_mem_of_ne_nil _ (some_ready listed hsz ⟨j, hjn, hj⟩)
          have hki : k ≠ i := fun e => hni (e ▸ hk)
          have := ready_mono (i := i) ((ready_late hki).1 hk) hki
          rw [h0] at this; cases this
        · have hki : k ≠ i := by
            rintro rfl
            have := (mem_ready.1 hk).1
            rw [getD_set_self] at this; cases this
          obtain ⟨hku, o, ho, hall⟩ := mem_ready.1 hk
          rw [getD_set_ne true (Ne.symm hki)] at hku
          have hnd : ∀ e ∈ oi.after, Region.binds md e = true → e.on ≠ k := by
            intro e he hb heq
            obtain ⟨_, o', ho', hall'⟩ := mem_ready.1 hir
            rw [hoi] at ho'; cases ho'
            have h1 := hall' e he hb
            rw [heq] at h1
            have hkn : k < listed.size := by have := (Array.getElem?_eq_some_iff.1 ho).1; omega
            simp [hkn] at h1 hku
            rw [h1] at hku; cases hku
          rcases hap k o ho hki hnd with ⟨_, ⟨e, he, hb, hej⟩⟩ | ⟨hno, hapt⟩
          · exfalso
            have h1 := hall e he hb
            rw [hej, getD_set_ne false (by omega)] at h1
            have : j < listed.size := by omega
            simp [this] at h1 hj
            rw [h1] at hj; cases hj
          · have hkr : k ∈ Region.ready md ops listed := mem_ready.2 ⟨hku, o, ho, fun e he hb => by
              have h1 := hall e he hb
              rwa [getD_set_ne false (fun e' => hno e he hb e'.symm)] at h1⟩
            have h1 := h.2 k ((ready_late hki).2 hkr)
            rw [force_wpOp] at h1
            have hkn : k < ops.size := (Array.getElem?_eq_some_iff.1 ho).1
            obtain ⟨_, _, d3⟩ := Oper.apart_spec hapt
            refine wpOp_put_rev (x := x) (fun d hd hx => ?_) ho hapt (fun cs b => Region.noSelect_spec hsel k o cs b ho) (fun a' w' hex h2 => ?_) h1
            · refine d3 d hd (List.mem_append_left _ (List.mem_filterMap.2 ⟨.tmp d, ?_, rfl⟩))
              rw [hm, hx]; simp [Op.operands]
            · rw [Array.setIfInBounds_comm _ _ (Ne.symm hki)]
              by_cases hkj : k = j
              · subst hkj
                have hir2 : i ∈ Region.ready md (force ops k i) (listed.setIfInBounds k true) := ready_late_i.2 ⟨ready_mono hir (by omega), fun _ => by
                  have : k < listed.size := by omega
                  simp [this]⟩
                have h3 := h2.2 i hir2
                rw [force_wpOp] at h3
                have h4 := hY2 _ _ _ h3
                rw [hex] at h4
                exact late_same f _ _ _ getD_set_self h4
              · have h3 := (ih (listed.setIfInBounds k true) (by simpa using hsz) (hfew.step hkn hku)).2 (by rw [getD_set_ne true hkj]; exact hj) (ready_mono hir (Ne.symm hki)) a' w' f rfl h2
                rw [hex] at h3
                exact h3
    refine ⟨fun hi a w h => ?_, fun hj hir a w f hf h => by
      have : f = fuel := by omega
      subst this
      exact hB hj hir a w h⟩
    refine ⟨fun h0 => ?_, fun k hk => ?_⟩
    · refine h.1 (List.eq_nil_iff_forall_not_mem.2 fun k hk => ?_)
      by_cases hki : k = i
      · subst hki; have := (ready_late_i.1 hk).1; rw [h0] at this; cases this
      · have := (ready_late hki).1 hk; rw [h0] at this; cases this
    · have hku := (mem_ready.1 hk).1
      have hkn : k < ops.size := by obtain ⟨_, o, ho, _⟩ := mem_ready.1 hk; exact (Array.getElem?_eq_some_iff.1 ho).1
      by_cases hki : k = i
      · subst hki
        cases hj : listed.getD j false with
        | true =>
          have h1 := h.2 k (ready_late_i.2 ⟨hk, fun _ => hj⟩)
          rw [force_wpOp] at h1
          exact wpOpIn_mono (fun a w h => late_same fuel _ a w getD_set_self h) h1
        | false => exact hY a w _ (hB (by rw [hlt listed j hsz (by omega)]; exact hj) hk a w h)
      · have h1 := h.2 k ((ready_late hki).2 hk)
        rw [force_wpOp] at h1
        exact wpOpIn_mono (fun a w h => (ih (listed.setIfInBounds k true) (by simpa using hsz) (hfew.step hkn hku)).1 (by rw [getD_set_ne true hki]; exact hi) a w h) h1

/-- A move may wait for an operation that stands ahead of it. -/
theorem r_late {c : Cx} {ops : Array Oper} {Q : Exit → Act → World → Prop} {env : Env} {F : Know} {own : Own} (i j : Nat) (hB : lateB .any ops i j = true)
    (h : R c true (force ops j i) (noPanic Q) 0 env F own) (hro : c.ro = none := by rfl) : R c true ops Q 0 env F own := fun a w hd => by
  have h1 := h a w hd
  simp only [RestOf, force_size, hro] at h1
  simp only [RestOf, hro]
  simp only [lateB, Bool.and_eq_true, decide_eq_true_eq] at hB
  obtain ⟨⟨⟨hsel, hji⟩, hin⟩, hB⟩ := hB
  have hoi : ops[i]? = some ops[i] := Array.getElem?_eq_getElem hin
  simp only [hoi, Bool.and_eq_true] at hB
  obtain ⟨⟨hg, hmv⟩, hall⟩ := hB
  obtain ⟨x, hx⟩ : ∃ x, ops[i].op = .move x := by
    split at hmv
    · rename_i x h; exact ⟨x, h⟩
    · cases hmv
  have hk : ∀ k o, ops[k]? = some o → (∀ e ∈ o.after, Region.binds .any e = true → e.on < k) ∧ (k ≠ i → (∀ e ∈ ops[i].after, Region.binds .any e = true → e.on ≠ k) → (∃ e ∈ o.after, Region.binds .any e = true ∧ e.on = i) ∧ (∃ e ∈ o.after, Region.binds .any e = true ∧ e.on = j) ∨ (∀ e ∈ o.after, Region.binds .any e = true → e.on ≠ i) ∧ ops[i].apart ops o = true) := by
    intro k o ho
    have h2 := List.all_eq_true.1 hall k (List.mem_range.2 (Array.getElem?_eq_some_iff.1 ho).1)
    simp only [ho, Bool.and_eq_true, Bool.or_eq_true, beq_iff_eq] at h2
    obtain ⟨h3, h4⟩ := h2
    refine ⟨fun e he hb => ?_, fun hki hno => ?_⟩
    · have := Array.all_eq_true_iff_forall_mem.1 h3 e he
      simpa [hb] using this
    · rcases h4 with (h4 | h4) | h4
      · exact absurd h4 hki
      · obtain ⟨e, he, hb⟩ := Array.any_eq_true'.1 h4
        simp only [Bool.and_eq_true, beq_iff_eq] at hb
        exact absurd hb.2 (hno e he hb.1)
      · split at h4
        · rename_i h5
          obtain ⟨e, he, hb⟩ := Array.any_eq_true'.1 h5
          obtain ⟨e2, he2, hb2⟩ := Array.any_eq_true'.1 h4
          simp only [Bool.and_eq_true, beq_iff_eq] at hb hb2
          exact .inl ⟨⟨e, he, hb⟩, ⟨e2, he2, hb2⟩⟩
        · rename_i h5
          refine .inr ⟨fun e he hb heq => h5 (Array.any_eq_true'.2 ⟨e, he, by simp [hb, heq]⟩), h4⟩
  refine wpAny_noPanic _ _ _ _ ((wpAny_late (oi := ops[i]) (x := x) hoi hx (by simpa using hg) hji hsel rfl (fun k o ho => (hk k o ho).1) (fun k o ho => (hk k o ho).2) _ _ (lk_size _ _) (few_lk (Nat.le_refl _))).1 ?_ a w h1)
  rw [lk_get true hin]; simp
end
end Go.Eng
