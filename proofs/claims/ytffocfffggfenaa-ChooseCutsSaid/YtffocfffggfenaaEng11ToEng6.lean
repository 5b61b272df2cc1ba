/-
  The texts Eng11 to Eng6, one after the other.
-/
import Derived.Test.YtffocfffggfenaaEng4ToEng10
import Derived.ProofKit
/-
  The engine, part 11: an `extract` that is unordered with a later operation is taken ahead of it.
-/
namespace Go.Eng
open Go
section
variable {P : Program} {md : Region.Mode} {ops : Array Oper} {Q : Exit → Act → World → Prop}
/-- Operation j waits for operation i too. -/
def force (ops : Array Oper) (i j : Nat) : Array Oper := ops.modify j fun o => { o with after := o.after.push ⟨i, .data⟩ }
theorem force_get {i j k : Nat} : (force ops i j)[k]? = (ops[k]?).map fun o => if j = k then { o with after := o.after.push ⟨i, .data⟩ } else o := by
  rw [force, Array.getElem?_modify]
  split <;> simp
theorem force_dst {i j k : Nat} : ((force ops i j)[k]?).bind (·.dst) = (ops[k]?).bind (·.dst) := by
  rw [force_get]
  cases ops[k]? with
  | none => rfl
  | some o => simp only [Option.map_some, Option.bind_some]; split <;> rfl
theorem force_yielded {i j : Nat} {t : Array Value} : yielded (force ops i j) t = yielded ops t := by
  funext k
  unfold yielded
  rw [force_dst]
theorem force_wpOp {i j k : Nat} {K : Act → World → Prop} {a : Act} {w : World} : wpOpIn (FR none) 0 P (force ops i j) Q k K a w = wpOpIn (FR none) 0 P ops Q k K a w := by
  unfold wpOpIn
  rw [force_get, force_yielded]
  cases ops[k]? with
  | none => rfl
  | some o =>
    simp only [Option.map_some]
    split <;> rfl
def noPanic (Q : Exit → Act → World → Prop) : Exit → Act → World → Prop
  | .panic _, _, _ => False
  | e, a, w => Q e a w
theorem LetsOut_noPanic (h : LetsOut (noPanic Q)) : LetsOut Q := h
theorem upon_noPanic {o : Oper} {a : Act} {K : Act → World → Prop} {r : Result Next} (h : o.uponIn (FR none) 0 P a K (noPanic Q) r) : o.uponIn (FR none) 0 P a K Q r := by
  cases r with
  | ok n w' =>
    cases n <;> simp only [Oper.uponIn] at h ⊢ <;> try exact h
    case enter f args =>
      refine ⟨h.1, CallsIn.mono h.2 fun e w'' he => ?_⟩
      cases e with
      | returned u => exact he
      | panicked c => exact he.elim
      | outgrown => exact he
    case round l f tmps asg body =>
      refine ⟨h.1, RoundIn.mono h.2 fun e w'' he => ?_⟩
      cases e with
      | returned u => exact he
      | panicked c => exact he.elim
      | outgrown => exact he
  | halt x w' =>
    cases x <;> simp only [Oper.uponIn] at h ⊢ <;> try exact h
    case panic u => exact h.elim
theorem wpOp_noPanic {k : Nat} {K : Act → World → Prop} {a : Act} {w : World} (h : wpOpIn (FR none) 0 P ops (noPanic Q) k K a w) : wpOpIn (FR none) 0 P ops Q k K a w := by
  unfold wpOpIn at *
  cases ho : ops[k]? with
  | none => rw [ho] at h; exact h
  | some o =>
    rw [ho] at h
    simp only at h ⊢
    split
    · rename_i hw
      rw [if_pos hw] at h
      exact ⟨h.1, upon_noPanic h.2⟩
    · rename_i hw
      rw [if_neg hw] at h
      exact h
theorem wpAny_noPanic : ∀ (fuel : Nat) (listed : Array Bool) (a : Act) (w : World), wpAnyIn (FR none) 0 P md ops (noPanic Q) fuel listed a w → wpAnyIn (FR none) 0 P md ops Q fuel listed a w
  | 0, _, _, _, h => h
  | fuel + 1, _, _, _, h => ⟨h.1, fun i hi => wpOpIn_mono (fun a w h => wpAny_noPanic fuel _ a w h) (wpOp_noPanic (h.2 i hi))⟩
/-- An operation that looks at no memory and always ends. -/
def isCalm (o : Oper) : Prop := (∃ t n, o.op = .extract t n) ∨ ∃ x, o.op = .move x
/-- What an `extract` does: it yields, or it is stuck; no room is asked for. -/
theorem extract_shape {o : Oper} (a : Act) (ho : isCalm o) : (∃ v, execOp a.eval o = .pure (.value v)) ∨ ∃ s, execOp a.eval o = .halt s ∧ ∀ u, s ≠ .panic u := by
  rcases ho with ⟨t, n, ho⟩ | ⟨x, ho⟩
  rotate_left
  · exact .inl ⟨a.eval x, by simp only [execOp, ho]; rfl⟩
  simp only [execOp, ho, Instr.extract]
  split
  · split
    · exact .inl ⟨_, rfl⟩
    · exact .inr ⟨_, rfl, by simp⟩
  · exact .inr ⟨_, rfl, by simp⟩
theorem extract_yields {o : Oper} {i : Nat} {K : Act → World → Prop} {a : Act} {w : World} (hi : ops[i]? = some o) (ho : isCalm o)
    (h : wpOpIn (FR none) 0 P ops (noPanic Q) i K a w) : ∃ v, YieldsFenced P ops o v a ∧ K (a.put o.dst v) w := by
  unfold wpOpIn at h
  rw [hi] at h
  simp only at h
  split at h
  · rename_i hw
    rcases extract_shape a ho with ⟨v, hv⟩ | ⟨s, hs, hp⟩
    · refine ⟨v, ⟨.inl ⟨hw, fun w => by rw [hv]; rfl⟩, fun w => by unfold Oper.about; rcases ho with ⟨t, n, ho⟩ | ⟨x, ho⟩ <;> rw [ho]⟩, ?_⟩
      have h := h.2
      rw [show (FR none).round = none from rfl, Oper.semAt_none, hv] at h; exact h
    · have h := h.2
      rw [show (FR none).round = none from rfl, Oper.semAt_none, hs] at h
      cases s <;> first | exact h.elim | exact (hp _ rfl).elim
  · rename_i hw
    exact ⟨undef, ⟨.inr ⟨by simpa using hw, rfl⟩, fun w => by unfold Oper.about; rcases ho with ⟨t, n, ho⟩ | ⟨x, ho⟩ <;> rw [ho]⟩, h.2⟩
/-- Operation i is an `extract` that may be taken ahead of j as soon as it is ready. -/
def forceB (md : Region.Mode) (ops : Array Oper) (i j : Nat) : Bool :=
  Region.noSelect ops && i != j && match ops[i]?, ops[j]? with
  | some oi, some oj => (match oi.op with | .extract .. => true | .move _ => true | _ => false) &&
      oi.after.all (fun e => !Region.binds md e || oj.after.any fun e' => Region.binds md e' && e'.on == e.on) &&
      (List.range ops.size).all fun k => k == i || oi.after.any (fun e => Region.binds md e && e.on == k) || match ops[k]? with
        | some o => o.after.any (fun e => Region.binds md e && e.on == i) || oi.apart ops o
        | none => true
  | _, _ => false
theorem wpAny_force {i j : Nat} (hB : forceB md ops i j = true) : ∀ (fuel : Nat) (listed : Array Bool) (a : Act) (w : World), ops.size ≤ listed.size → wpAnyIn (FR none) 0 P md (force ops i j) (noPanic Q) fuel listed a w → wpAnyIn (FR none) 0 P md ops (noPanic Q) fuel listed a w := by
  unfold forceB at hB
  rw [Bool.and_eq_true, Bool.and_eq_true] at hB
  obtain ⟨⟨hns, hne⟩, hB⟩ := hB
  have hne : i ≠ j := by simpa using hne
  split at hB
  case h_2 => cases hB
  rename_i oi oj hi hj
  rw [Bool.and_eq_true, Bool.and_eq_true] at hB
  obtain ⟨⟨hx, hd⟩, hf⟩ := hB
  have ho : isCalm oi := by
    split at hx
    · rename_i t n h; exact .inl ⟨t, n, h⟩
    · rename_i x h; exact .inr ⟨x, h⟩
    · cases hx
  have hd : ∀ e ∈ oi.after, Region.binds md e = true → ∃ e' ∈ oj.after, Region.binds md e' = true ∧ e'.on = e.on := by
    intro e he hb
    have := Array.all_eq_true_iff_forall_mem.1 hd e he
    simp only [hb, Bool.not_true, Bool.false_or] at this
    obtain ⟨e', he', h⟩ := Array.any_eq_true'.1 this
    simp only [Bool.and_eq_true, beq_iff_eq] at h
    exact ⟨e', he', h⟩
  have hfi : (force ops i j)[i]? = some oi := by rw [force_get, hi]; simp [Ne.symm hne]
  -- readiness
  have hri : ∀ listed, i ∈ Region.ready md ops listed → i ∈ Region.ready md (force ops i j) listed := by
    intro listed h
    rw [mem_ready] at *
    obtain ⟨h0, o, ho', hall⟩ := h
    rw [hi] at ho'; cases ho'
    exact ⟨h0, oi, hfi, hall⟩
  have hrk : ∀ listed : Array Bool, ops.size ≤ listed.size → i ∉ Region.ready md ops listed → ∀ k ∈ Region.ready md ops listed, k ∈ Region.ready md (force ops i j) listed := by
    intro listed hsz hn k h
    rw [mem_ready] at h ⊢
    obtain ⟨h0, o, ho', hall⟩ := h
    refine ⟨h0, if j = k then { o with after := o.after.push ⟨i, .data⟩ } else o, by rw [force_get, ho']; rfl, ?_⟩
    by_cases hjk : j = k
    · subst hjk
      rw [hj] at ho'; cases ho'
      rw [if_pos rfl]
      intro e he hb
      rcases Array.mem_push.1 he with he | rfl
      · exact hall e he hb
      · refine Classical.byContradiction fun hc => hn ?_
        have hu : listed.getD i true = false := by
          rcases Nat.lt_or_ge i listed.size with h' | h'
          · simp [h'] at hc ⊢; exact hc
          · have := (Array.getElem?_eq_some_iff.1 hi).1; omega
        refine mem_ready.2 ⟨hu, oi, hi, fun e he hb => ?_⟩
        obtain ⟨e', he', hb', hon⟩ := hd e he hb
        rw [← hon]; exact hall e' he' hb'
    · rw [if_neg hjk]; exact hall
  intro fuel
  induction fuel with
  | zero =>
    intro listed a w hsz h
    refine ⟨?_, h.2⟩
    have h1 := h.1
    refine List.eq_nil_iff_forall_not_mem.2 fun k hk => ?_
    by_cases hir : i ∈ Region.ready md ops listed
    · have := hri _ hir; rw [h1] at this; cases this
    · have := hrk _ hsz hir k hk; rw [h1] at this; cases this
  | succ fuel ih =>
    intro listed a w hsz h
    by_cases hir : i ∈ Region.ready md ops listed
    · have h1 := h.2 i (hri _ hir)
      rw [force_wpOp] at h1
      obtain ⟨v, hy, hK⟩ := extract_yields hi ho h1
      refine wpAnyIn_first rfl hi (Region.noSelect_spec hns) (fun _ _ _ h => h.elim) fuel listed a w ?_ hir hy (ih _ _ _ (by simpa using hsz) hK)
      intro k ok hk hki hun hno
      have h2 := (List.all_eq_true.1 hf) k (List.mem_range.2 (Array.getElem?_eq_some_iff.1 hk).1)
      simp only [hk, Bool.or_eq_true, beq_iff_eq, hki, false_or] at h2
      rcases h2 with h2 | h2 | h2
      · obtain ⟨e, he, hb⟩ := Array.any_eq_true'.1 h2
        simp only [Bool.and_eq_true, beq_iff_eq] at hb
        obtain ⟨_, o, ho', hall⟩ := mem_ready.1 hir
        rw [hi] at ho'; cases ho'
        have := hall e he hb.1
        rw [hb.2] at this
        rcases Nat.lt_or_ge k listed.size with h' | h'
        · simp [h'] at this hun; rw [hun] at this; cases this
        · simp [Array.getElem?_eq_none h'] at this
      · obtain ⟨e, he, hb⟩ := Array.any_eq_true'.1 h2
        simp only [Bool.and_eq_true, beq_iff_eq] at hb
        exact absurd hb.2 (hno e he hb.1)
      · exact h2
    · refine ⟨fun h0 => ?_, fun k hk => ?_⟩
      · have h3 : Region.ready md (force ops i j) listed = [] := by
          refine List.eq_nil_iff_forall_not_mem.2 fun k hk => ?_
          have : k ∈ Region.ready md ops listed := by
            rw [mem_ready] at hk ⊢
            obtain ⟨g0, o, go, gall⟩ := hk
            rw [force_get] at go
            cases hk' : ops[k]? with
            | none => rw [hk'] at go; cases go
            | some o' =>
              rw [hk'] at go
              simp only [Option.map_some, Option.some.injEq] at go
              refine ⟨g0, o', rfl, fun e he hb => gall e ?_ hb⟩
              rw [← go]
              split
              · exact Array.mem_push.2 (.inl he)
              · exact he
          rw [h0] at this; cases this
        exact h.1 h3
      · have h1 := h.2 k (hrk _ hsz hir k hk)
        rw [force_wpOp] at h1
        exact wpOpIn_mono (fun a w h => ih _ _ _ (by simpa using hsz) h) h1
end
theorem force_size {ops : Array Oper} {i j : Nat} : (force ops i j).size = ops.size := by simp [force]
/-- An `extract` is taken ahead of an operation that it is unordered with. -/
theorem r_force {c : Cx} {ops : Array Oper} {Q : Exit → Act → World → Prop} {k : Nat} {env : Env} {F : Know} {own : Own} (i j : Nat) (hB : forceB .any ops i j = true)
    (h : R c true (force ops i j) (noPanic Q) k env F own) (hro : c.ro = none := by rfl) : R c true ops Q k env F own := fun a w hd => by
  have h1 := h a w hd
  simp only [RestOf, force_size, hro] at h1
  simp only [RestOf, hro]
  exact wpAny_noPanic _ _ _ _ (wpAny_force hB _ _ _ _ (by rw [lk_size]; exact Nat.le_refl _) h1)
theorem np {c : Cx} {Q : Exit → Act → World → Prop} {env : Env} {F : Know} {own : Own} (h : TK c env F own (Q .normal)) : TK c env F own (noPanic Q .normal) := h
end Go.Eng

/-
  The engine, part 12: ranges over a function: what a function yields, and what the loop makes of it.
-/
namespace Go.Eng
open Go

/-- The value `yield` of loop l. -/
abbrev yieldV (l : Nat) : Value := .func (.yield l) #[] #[]

/-- One round of loop l. -/
def RoundW (P : Program) (l : Nat) (args : List Value) (W : World) (R : Ending → World → Prop) : Prop :=
  ∃ fn tmps assign body, (Instr.yield l args.toArray).run P W = .ok (.round l fn tmps assign body) W ∧ RoundIn (FR none) 0 P l fn tmps assign body W R

/-- What holds between the rounds of a loop, and what a round does. -/
structure Rounds (P : Program) (l : Nat) (F : Know) (xs : List (List Value)) (J : Nat → World → Prop) (Jx : World → Prop) : Prop where
  st : ∀ k W W', J k W → Keep [] W W' → J k W'
  stx : ∀ W W', Jx W → Keep [] W W' → Jx W'
  know : ∀ k W, J k W → ∀ a u, F a = some u → W.cell? a = some u
  round : ∀ k (hk : k < xs.length) W, J k W → RoundW P l xs[k] W fun e W' => (e = .returned (.bool true) ∧ J (k + 1) W') ∨ (e = .returned (.bool false) ∧ Jx W')

/-- A function that yields these, one after the other, and stops when it is told to. -/
def Gives (P : Program) (f : FuncId) (caps : List Value) (F : Know) (xs : List (List Value)) : Prop :=
  ∀ (l : Nat) (J : Nat → World → Prop) (Jx : World → Prop) (w : World), Rounds P l F xs J Jx → J 0 w →
    Calls P f (yieldV l :: caps).toArray w fun e w' => ∃ v, e = .returned v ∧ (J xs.length w' ∨ Jx w')

theorem Rounds.incl {P : Program} {l : Nat} {F F' : Know} {xs : List (List Value)} {J : Nat → World → Prop} {Jx : World → Prop} (h : Rounds P l F' xs J Jx) (hF : Incl F F') : Rounds P l F xs J Jx :=
  ⟨h.st, h.stx, fun k W hj a u ha => h.know k W hj a u (hF a u ha), h.round⟩
theorem Gives.incl {P : Program} {f : FuncId} {caps : List Value} {F F' : Know} {xs : List (List Value)} (h : Gives P f caps F xs) (hF : Incl F F') : Gives P f caps F' xs :=
  fun l J Jx w hR => h l J Jx w (hR.incl hF)

/-! ### The function that is ranged over -/

theorem fn_gives {P : Program} {f : FuncId} {fn : Func} {code : Code} {caps : List Value} {n : Nat} {F : Know} {xs : List (List Value)} (hf : P.funcs[f]? = some fn) (hb : fn.body = some code) (hn : fn.ntmps = n) (hlen : Nat.ble (caps.length + 1) n = true)
    (h : ∀ (l : Nat) (J : Nat → World → Prop) (Jx : World → Prop) (w : World), Rounds P l F xs J Jx → J 0 w → T ⟨P, n, w, [], none, []⟩ (mkEnv 0 (yieldV l :: caps)) F [] code (bodyQ P fn (fun e w' => ∃ v, e = .returned v ∧ (J xs.length w' ∨ Jx w')))) : Gives P f caps F xs :=
  fun l J Jx w hR h0 => fn_enter hf hb hn (Nat.le_of_ble_eq_true hlen) (hR.know 0 w h0) (fun _ _ _ h => by cases h) (by simp) (fun _ h => by cases h) (fun _ h => by cases h) (h l J Jx w hR h0)

section
variable {P : Program} {n : Nat} {w0 : World} {env : Env} {F : Know} {own : Own} {Q : Exit → Act → World → Prop}

/-- A call of yield. -/
theorem oY {ty : TypeId} {ps : String} {af : Array Edge} {g : Option (Nat × Bool)} {l : List Oper} {k : Nat} {draw : Bool} {t : Tmp} {F0 : Know} {x : Operand} {lp : Nat} {args : List Operand} {ts : Array TypeId} {vs : List Value} {xs : List (List Value)} {J : Nat → World → Prop} {Jx : World → Prop} {i : Nat} (hR : Rounds P lp F0 xs J Jx) (hJ : J i w0) (hi : i < xs.length)
    (hB : draw = true → aloneB l.toArray k = true) (ho : nthO l k = some ⟨some t, .call { callee := .value x, args := args.toArray, argTypes := ts }, ty, ps, af, g⟩) (hx : Env.ev env x = some (yieldV lp)) (hv : args.mapM (Env.ev env) = some vs)
    (hd : Nat.blt t n = true) (hw : wantedB l.toArray env ⟨some t, .call { callee := .value x, args := args.toArray, argTypes := ts }, ty, ps, af, g⟩) (hvs : vs = xs[i])
    (h1 : ∀ w1, J (i + 1) w1 → R ⟨P, n, w1, [], none, []⟩ draw l.toArray Q (k + 1) ((t, .bool true) :: env) F0 []) (h2 : ∀ w1, Jx w1 → R ⟨P, n, w1, [], none, []⟩ draw l.toArray Q (k + 1) ((t, .bool false) :: env) noK []) : R ⟨P, n, w0, [], none, []⟩ draw l.toArray Q k env F own := by
  refine r_one (Array.getElem?_eq_some_iff.1 (by rw [← nthO_eq]; exact ho)).1 hB fun a w hh => ?_
  unfold wpOpIn
  have ho' : l.toArray[k]? = some ⟨some t, .call { callee := .value x, args := args.toArray, argTypes := ts }, ty, ps, af, g⟩ := by rw [← nthO_eq]; exact ho
  simp only [ho', wanted_of hh.env hw, if_true]
  refine ⟨fun _ _ => trivial, ?_⟩
  rw [Oper.semAt_eq _ _ _ (fun _ h => by cases h)]
  subst hvs
  obtain ⟨fn, tmps, assign, body, hy, hr⟩ := hR.round i hi w (hR.st i _ _ hJ hh.sat.keep)
  have e : (execOp a.eval ⟨some t, .call { callee := .value x, args := args.toArray, argTypes := ts }, ty, ps, af, g⟩).run P w = .ok (.round lp fn tmps assign body) w := by
    have e : args.toArray.map a.eval = xs[i].toArray := by rw [List.map_toArray, evals hh.env hv]
    simp only [execOp, Sem.run_bind, run_resolve_func (hh.env.eval hx), Result.andThen_ok, invoke]
    rw [e]
    simpa using hy
  rw [e]
  simp only [Oper.uponIn]
  refine ⟨FR_dep, hr.mono fun e w' he => ?_⟩
  rcases he with ⟨rfl, hj⟩ | ⟨rfl, hj⟩
  · exact h1 w' hj _ _ ⟨hh.env.put' (d := some t) hd _, Keep.refl _ _, hR.know _ _ hj, fun _ _ _ h => (by cases h), by simp, fun _ h => (by cases h), fun _ h => (by cases h)⟩
  · exact h2 w' hj _ _ ⟨hh.env.put' (d := some t) hd _, Keep.refl _ _, fun _ _ h => (by cases h), fun _ _ h => (by cases h), by simp, fun _ h => (by cases h), fun _ h => (by cases h)⟩

/-- A loop in which yield is called: what holds between the rounds is told of the world since the last call. -/
theorem t_whileG {x : Code} {σ : Type} (M : σ → Env) (μ : σ → Nat) (I : σ → World → Prop) (s0 : σ) {env0 : Env} (h0 : I s0 w0) (hm : Env.sub (M s0) env) (h1 : Env.sub env0 env)
    (round : ∀ s w1, I s w1 → T ⟨P, n, w1, [], none, []⟩ (M s ++ env0) F [] x (Exit.then (fun a w => ∃ s' w2, I s' w2 ∧ μ s' < μ s ∧ Hd ⟨P, n, w2, [], none, []⟩ (M s' ++ env0) F [] a w) Q)) : T ⟨P, n, w0, [], none, []⟩ env F own (.loop x) Q := by
  have hsub : Env.sub (M s0 ++ env0) env := by
    generalize M s0 = m at hm
    induction m with
    | nil => exact h1
    | cons y r ih => obtain ⟨t, v⟩ := y; exact ⟨hm.1, ih hm.2⟩
  intro a w hd b k cs hro hb hr
  have hd := hd.drop hsub (List.nil_sublist _)
  have key : ∀ j (s : σ) w1 a w, μ s = j → I s w1 → Hd ⟨P, n, w1, [], none, []⟩ (M s ++ env0) F [] a w →
      ∃ e a' w', Q e a' w' ∧ ArrivesIn (Machine.fenced P (FR none)) P (lone (b.atR a (.code x :: .inLoop x :: k)) cs w) b k cs e a' w' := by
    intro j
    induction j using Nat.strongRecOn with
    | _ j ih =>
      intro s w1 a w hn hI hd
      obtain ⟨e, a₁, w₁, hq, harr⟩ := round s w1 hI a w hd b (.inLoop x :: k) cs hro hb hr
      cases e with
      | normal =>
        obtain ⟨s', w2, hI₁, hlt, hd₁⟩ := hq
        obtain ⟨e₂, a₂, w₂, hq₂, harr₂⟩ := ih (μ s') (hn ▸ hlt) s' w2 a₁ w₁ rfl hI₁ hd₁
        exact ⟨e₂, a₂, w₂, hq₂, .of_steps (StepsIn.trans harr (.one (fenced_calm hb hr rfl) stepR_inLoop)) harr₂⟩
      | exit id => exact ⟨_, a₁, w₁, hq, .pass (x := .inLoop x) rfl (fun _ _ => .inl (by simp)) harr⟩
      | goto l => exact ⟨_, a₁, w₁, hq, .pass (x := .inLoop x) rfl (fun _ _ => .inl (by simp)) harr⟩
      | ret => exact ⟨_, a₁, w₁, hq, .pass (x := .inLoop x) rfl (fun _ _ => .inl (by simp)) harr⟩
      | panic ch => exact ⟨_, a₁, w₁, hq, .pass (x := .inLoop x) rfl (fun _ _ => .inl (by simp)) harr⟩
      | outgrown => exact ⟨_, a₁, w₁, hq, .pass (x := .inLoop x) rfl (fun _ _ => .inl (by simp)) harr⟩
  obtain ⟨e, a', w', hq, harr⟩ := key _ s0 w0 a w rfl h0 hd
  exact ⟨e, a', w', hq, .of_steps (.one (fenced_calm hb hr rfl) stepR_loop) harr⟩

theorem loop_backG {σ : Type} {E : σ → Env} {μ : σ → Nat} {I : σ → World → Prop} {s : σ} (s' : σ) (h0 : I s' w0) (hm : μ s' < μ s) (he : Env.sub (E s') env) :
    TK ⟨P, n, w0, [], none, []⟩ env F own (fun a w => ∃ s' w2, I s' w2 ∧ μ s' < μ s ∧ Hd ⟨P, n, w2, [], none, []⟩ (E s') F [] a w) := fun _ _ hd => ⟨s', w0, h0, hm, hd.drop he (List.nil_sublist _)⟩

/-! ### The end of a function behind a loop -/

abbrev markD (D : Nat) : Deferred := { target := .collected D, args := #[] }
abbrev deadO (D : Nat) : Nat × Obj := (D, .deferred (some []))

theorem ret_mark {c : Cx} {D : Nat} {pre : Own} {fn : Func} {rs : List ResultVar} {vs : List Value} {v : Value} {E : Ending → World → Prop} (hQ : Q .ret = bodyQ c.P fn E .ret) (hr : fn.results = rs.toArray) (hv : ResAll c env pre rs vs) (hp : pack vs = v) (h : ∀ w, Sat c F pre w → E (.returned v) w) (hdf : c.df = [markD D] := by rfl) : TK c env F (pre ++ [deadO D]) (Q .ret) := by
  intro a w hh
  rw [hQ]
  subst hp
  show LeavesInM (FR none) 0 c.P fn a.tmps E a.defers .returning w
  rw [hh.env.defers, hdf]
  have hm : deadO D ∈ pre ++ [deadO D] := List.mem_append_right _ List.mem_cons_self
  have hD := hh.sat.own _ hm
  have hu : Upd D (.deferred (some [])) (.deferred none) (pre ++ [deadO D]) (pre ++ [(D, .deferred none)]) := .app .head
  have hs : Sat c F pre (w.putObj D (.deferred none)) := (hh.sat.upd hu).sub (List.sublist_append_left _ _)
  refine ⟨by simp, .inl ⟨D, _, rfl, run_takeDeferred hD, pack vs, run_results (F := F) (a := a) hr hv ⟨hh.env, hs⟩, h _ hs⟩⟩

/-- The end of a function that hands back nothing. -/
theorem end_none {c : Cx} {fn : Func} {E : Ending → World → Prop} (hQ : Q .normal = bodyQ c.P fn E .normal) (hr : fn.results = #[]) (h : ∀ w, Sat c F own w → E (.returned (.tuple #[])) w) (hdf : c.df = [] := by rfl) : TK c env F own (Q .normal) := by
  intro a w hh
  rw [hQ]
  exact leave_none (fn := fn) (hh.env.defers.trans hdf) (run_results (rs := []) (vs := []) hr trivial hh) (h w hh.sat)

/-! ### The loop -/

def zipE : List Tmp → List Value → List (Nat × Value) → List (Nat × Value)
  | p :: ps, v :: vs, e => zipE ps vs ((p, v) :: e)
  | _, _, e => e

theorem zipE_ok {df df' : List Deferred} : ∀ (ps : List Tmp) (vs : List Value) (env : Env) (a : Act), ps.all (fun p => Nat.blt p n) = true → EnvOk n df env a →
    EnvOk n df' (zipE ps vs env) { tmps := (ps.zip vs).foldl (fun t (x : Tmp × Value) => t.setIfInBounds x.1 x.2) a.tmps, defers := df' }
  | [], vs, env, a, _, h => ⟨h.size, rfl, h.get⟩
  | p :: ps, [], env, a, _, h => ⟨h.size, rfl, h.get⟩
  | p :: ps, v :: vs, env, a, hp, h => by
    simp only [List.all_cons, Bool.and_eq_true] at hp
    have := zipE_ok (df' := df') ps vs ((p, v) :: env) (a.put (some p) v) hp.2 (h.put (by simpa [Nat.blt_eq] using hp.1) v)
    simpa [zipE, Act.put] using this

/-- Behind `beginRound`. -/
def Begin (P : Program) (l : Nat) (body : Code) (Q : Exit → Act → World → Prop) : Act → World → Prop := fun a w => ∃ w2, (Instr.beginRound l).run P w = .ok () w2 ∧ body.wpIn (FR (some l)) 0 P Q a w2

/-- Between two rounds; and where a round has left the loop. -/
def SatJ {σ : Type} (c : Cx) (F : Know) (O : σ → Own) (I : Nat → σ → Prop) (l D : Nat) (r : Loop) (k : Nat) (W : World) : Prop := ∃ s, I k s ∧ Sat c F (O s ++ [(l, .loop r), deadO D]) W
def SatX {σ : Type} (c : Cx) (F : Know) (O : σ → Own) (Ix : Code → σ → Prop) (l D : Nat) (r : Loop) (W : World) : Prop := ∃ jump s, Ix jump s ∧ Sat c F (O s ++ [(l, .loop { r with state := .done, pending := some jump }), deadO D]) W
/-- What a round's body comes to. -/
def RQ {σ : Type} (c : Cx) (F : Know) (O : σ → Own) (I : Nat → σ → Prop) (Ix : Code → σ → Prop) (l D : Nat) (r : Loop) (k : Nat) : Exit → Act → World → Prop :=
  roundPost c.P l (fun e W' => (e = .returned (.bool true) ∧ SatJ c F O I l D r (k + 1) W') ∨ (e = .returned (.bool false) ∧ SatX c F O Ix l D r W'))

theorem Sat.ch {c c' : Cx} {w : World} (h : Sat c F own w) (h1 : c'.w0 = c.w0) (h2 : c'.S = c.S) : Sat c' F own w :=
  ⟨by rw [h1, h2]; exact h.keep, h.know, h.away, h.nodup, by rw [h1, h2]; exact h.ids, h.own⟩

theorem k_begin {c : Cx} {l : Nat} {body : Code} {pre post : Own} {r : Loop} (hr : r.state = .ready) (hro : c.ro = some l) (h : T c env F (pre ++ ((l, .loop { r with state := .busy }) :: post)) body Q) : TK c env F (pre ++ ((l, .loop r) :: post)) (Begin c.P l body Q) := by
  intro a w hh
  have hm : (l, Obj.loop r) ∈ pre ++ ((l, .loop r) :: post) := List.mem_append_right _ List.mem_cons_self
  have hu : Upd l (.loop r) (.loop { r with state := .busy }) (pre ++ ((l, .loop r) :: post)) (pre ++ ((l, .loop { r with state := .busy }) :: post)) := .app .head
  refine ⟨_, run_beginRound (hh.sat.own _ hm) hr, ?_⟩
  have h2 := h a _ ⟨hh.env, hh.sat.upd hu⟩
  rw [hro] at h2
  exact h2

section
variable {σ : Type} {c c' : Cx} {O : σ → Own} {I : Nat → σ → Prop} {Ix : Code → σ → Prop} {l D : Nat} {r : Loop} {k : Nat}

theorem endRound_sat {jump : Option Code} {s : σ} {w : World} (hs : Sat c F (O s ++ [(l, .loop { r with state := .busy }), deadO D]) w) :
    ∃ w', (Instr.endRound l jump).run P w = .ok (.bool jump.isNone) w' ∧ Sat c F (O s ++ [(l, .loop { r with state := if jump.isNone then .ready else .done, pending := jump }), deadO D]) w' := by
  have hm : (l, Obj.loop { r with state := .busy }) ∈ O s ++ [(l, .loop { r with state := .busy }), deadO D] := List.mem_append_right _ List.mem_cons_self
  have hl := hs.own _ hm
  have hu : Upd l (.loop { r with state := .busy }) (.loop { r with state := if jump.isNone then .ready else .done, pending := jump }) (O s ++ [(l, .loop { r with state := .busy }), deadO D]) (O s ++ [(l, .loop { r with state := if jump.isNone then .ready else .done, pending := jump }), deadO D]) := .app .head
  exact ⟨_, run_endRound (P := P) jump hl, hs.upd hu⟩

/-- A round that goes on. -/
theorem round_next (s : σ) (hr : r.state = .ready ∧ r.pending = none) (hI : I (k + 1) s) (hs : (O s ++ [(l, .loop { r with state := .busy }), deadO D]).Sublist own) (h1 : c.w0 = c'.w0) (h2 : c.S = c'.S) : TK c' env F own (RQ c F O I Ix l D r k .normal) := by
  intro a w hh
  obtain ⟨w', g1, g2⟩ := endRound_sat (P := c.P) (jump := none) ((hh.sat.sub hs).ch h1 h2)
  have e : ({ r with state := if (none : Option Code).isNone then .ready else .done, pending := none } : Loop) = r := by
    obtain ⟨e1, e2⟩ := hr
    cases r
    simp only at e1 e2
    subst e1; subst e2; rfl
  rw [e] at g2
  exact ⟨_, w', g1, .inl ⟨rfl, s, hI, g2⟩⟩
/-- A round that leaves the loop. -/
theorem round_ret (s : σ) (hI : Ix .ret s) (hs : (O s ++ [(l, .loop { r with state := .busy }), deadO D]).Sublist own) (h1 : c.w0 = c'.w0) (h2 : c.S = c'.S) : TK c' env F own (RQ c F O I Ix l D r k .ret) := by
  intro a w hh
  obtain ⟨w', g1, g2⟩ := endRound_sat (P := c.P) (jump := some .ret) ((hh.sat.sub hs).ch h1 h2)
  exact ⟨_, w', g1, .inr ⟨rfl, _, s, hI, g2⟩⟩
theorem round_exit {id : Nat} (s : σ) (hI : Ix (.exit id) s) (hs : (O s ++ [(l, .loop { r with state := .busy }), deadO D]).Sublist own) (h1 : c.w0 = c'.w0) (h2 : c.S = c'.S) : TK c' env F own (RQ c F O I Ix l D r k (.exit id)) := by
  intro a w hh
  obtain ⟨w', g1, g2⟩ := endRound_sat (P := c.P) (jump := some (.exit id)) ((hh.sat.sub hs).ch h1 h2)
  exact ⟨_, w', g1, .inr ⟨rfl, _, s, hI, g2⟩⟩
end

/-- A range over a function. -/
theorem t_rangeF {S : List Nat} {df : List Deferred} {g : Operand} {ps : List Tmp} {assign body : Code} {gf : FuncId} {caps : List Value} {xs : List (List Value)} {σ : Type} (O : σ → Own) (I : Nat → σ → Prop) (Ix : Code → σ → Prop) (s0 : σ) (X : Nat → List Value) {env0 : Env}
    (hg : Env.ev env g = some (.func (.func gf) #[] caps.toArray)) (hb : HasBody P gf) (hG : Gives P gf caps F xs) (hX : ∀ k (hk : k < xs.length), xs[k] = X k) (hps : ∀ k, (X k).length = ps.length) (hpn : ps.all (fun p => Nat.blt p n) = true)
    (h0 : I 0 s0) (he : Env.sub env0 env) (ho : (O s0).Sublist own)
    (round : ∀ (l D : Nat) (r : Loop) (k : Nat) (s : σ), r.state = .ready ∧ r.pending = none → k < xs.length → I k s →
      T ⟨P, n, w0, S, some l, []⟩ (zipE ps (X k) env0) F (O s ++ [(l, .loop r), deadO D]) assign (Exit.then (Begin P l body (RQ ⟨P, n, w0, S, none, []⟩ F O I Ix l D r k)) (fun _ _ _ => False)))
    (done : ∀ (D : Nat) (s : σ), I xs.length s → TK ⟨P, n, w0, S, none, markD D :: df⟩ env0 F (O s ++ [deadO D]) (Q .normal))
    (stop : ∀ (D : Nat) (jump : Code) (s : σ), Ix jump s → T ⟨P, n, w0, S, none, markD D :: df⟩ env0 F (O s ++ [deadO D]) jump Q) :
    T ⟨P, n, w0, S, none, df⟩ env F own (.rangeFunc g ps.toArray assign body) Q := by
  intro a w hd
  have hd0 := hd.drop he ho
  refine wpIn_rangeFunc fun fn _ => ?_
  obtain ⟨rr, hrr⟩ : ∃ rr : Loop, rr = { state := .ready, pending := none, fn, tmps := a.tmps, params := ps.toArray, assign, body, defers := w.heap.size } := ⟨_, rfl⟩
  have hst : rr.state = .ready ∧ rr.pending = none := by rw [hrr]; exact ⟨rfl, rfl⟩
  obtain ⟨w1, hw1⟩ : ∃ w1, (w.alloc (.deferred (some []))).alloc (.loop rr) = w1 := ⟨_, rfl⟩
  have hs1 : Sat ⟨P, n, w0, S, none, []⟩ F (O s0 ++ [(w.heap.size + 1, .loop rr), deadO w.heap.size]) w1 := by
    have g1 := (hd0.sat.addN (.deferred (some []))).addN (.loop rr)
    rw [hw1, World.size_alloc] at g1
    refine (g1.perm ?_).ch rfl rfl
    exact (List.perm_append_comm (l₁ := [(w.heap.size + 1, Obj.loop rr), deadO w.heap.size]) (l₂ := O s0))
  have hcl : Calls P gf (yieldV (w.heap.size + 1) :: caps).toArray w1 fun e w' => ∃ v, e = .returned v ∧ (SatJ ⟨P, n, w0, S, none, []⟩ F O I (w.heap.size + 1) w.heap.size rr xs.length w' ∨ SatX ⟨P, n, w0, S, none, []⟩ F O Ix (w.heap.size + 1) w.heap.size rr w') := by
    refine hG _ (SatJ ⟨P, n, w0, S, none, []⟩ F O I (w.heap.size + 1) w.heap.size rr) _ w1 ⟨?_, ?_, ?_, ?_⟩ ⟨s0, h0, hs1⟩
    · rintro k W W' ⟨s, hI, hs⟩ hk; exact ⟨s, hI, hs.keep' hk⟩
    · rintro W W' ⟨j, s, hI, hs⟩ hk; exact ⟨j, s, hI, hs.keep' hk⟩
    · rintro k W ⟨s, hI, hs⟩ a u ha; exact hs.know a u ha
    · rintro k hk W ⟨s, hI, hs⟩
      have hm : (w.heap.size + 1, Obj.loop rr) ∈ O s ++ [(w.heap.size + 1, .loop rr), deadO w.heap.size] := List.mem_append_right _ List.mem_cons_self
      have hl := hs.own _ hm
      have hxs : xs[k].length = ps.length := by rw [hX k hk]; exact hps k
      have hpp : rr.params = ps.toArray := by rw [hrr]
      have hy := run_yield (P := P) (args := xs[k].toArray) hl (by rw [hpp, List.size_toArray, List.size_toArray, hxs])
      have ez : (rr.params.zip xs[k].toArray).foldl (fun tmps (x : Tmp × Value) => tmps.setIfInBounds x.1 x.2) rr.tmps = (ps.zip (X k)).foldl (fun t (x : Tmp × Value) => t.setIfInBounds x.1 x.2) a.tmps := by
        have e2 : rr.tmps = a.tmps := by rw [hrr]
        rw [hpp, hX k hk, e2]; simp
      rw [ez] at hy
      refine ⟨_, _, _, _, hy, ?_⟩
      have hT := round _ w.heap.size rr k s hst hk hI _ W ⟨zipE_ok (n := n) (df' := []) ps (X k) env0 a hpn hd0.env, hs.ch rfl rfl⟩
      have ea : rr.assign = assign := by rw [hrr]
      have eb : rr.body = body := by rw [hrr]
      rw [ea, eb]
      refine roundIn_of_wpIn (F := FR none) trivial ?_
      exact hT
  refine ⟨w.heap.size + 1, [markD w.heap.size], w1, { target := .fn (.func gf) caps.toArray, args := #[yieldV (w.heap.size + 1)] }, w1, gf, (yieldV (w.heap.size + 1) :: caps).toArray, w1, ?_, ?_, fun _ _ => trivial, ?_, FR_dep, calls_FR (hcl.mono ?_)⟩
  · rw [← hw1, hrr]; exact run_enterLoop_outer _ _ _ _ _
  · have := run_resolve_func (P := P) (w := w1) (ρ := a.eval) (x := g) (args := #[.const (yieldV (w.heap.size + 1))]) (ts := #[]) (t := 0) (hd.env.eval hg)
    simpa [Act.eval] using this
  · simp only [invoke, hb.call]
    simp
  · rintro e w2 ⟨v, rfl, ⟨s, hI, hs⟩ | ⟨jump, s, hI, hs⟩⟩
    · have hm : (w.heap.size + 1, Obj.loop rr) ∈ O s ++ [(w.heap.size + 1, .loop rr), deadO w.heap.size] := List.mem_append_right _ List.mem_cons_self
      have hu : Upd (w.heap.size + 1) (.loop rr) (.loop { rr with state := .exhausted, pending := none }) (O s ++ [(w.heap.size + 1, .loop rr), deadO w.heap.size]) (O s ++ [(w.heap.size + 1, .loop { rr with state := .exhausted, pending := none }), deadO w.heap.size]) := .app .head
      refine ⟨none, _, by have := run_endLoop (P := P) (hs.own _ hm) (by rw [hst.1]; simp); rw [hst.2] at this; exact this, ?_⟩
      refine done w.heap.size s hI _ _ ⟨⟨hd0.env.size, by simp [hd0.env.defers], hd0.env.get⟩, ?_⟩
      exact ((hs.upd hu).sub ((List.sublist_cons_self _ _).append_left _)).ch rfl rfl
    · have hm : (w.heap.size + 1, Obj.loop { rr with state := .done, pending := some jump }) ∈ O s ++ [(w.heap.size + 1, .loop { rr with state := .done, pending := some jump }), deadO w.heap.size] := List.mem_append_right _ List.mem_cons_self
      have hu : Upd (w.heap.size + 1) (.loop { rr with state := .done, pending := some jump }) (.loop { rr with state := .exhausted, pending := some jump }) (O s ++ [(w.heap.size + 1, .loop { rr with state := .done, pending := some jump }), deadO w.heap.size]) (O s ++ [(w.heap.size + 1, .loop { rr with state := .exhausted, pending := some jump }), deadO w.heap.size]) := .app .head
      refine ⟨some jump, _, by have := run_endLoop (P := P) (hs.own _ hm) (by simp); exact this, ?_⟩
      refine stop w.heap.size jump s hI _ _ ⟨⟨hd0.env.size, by simp [hd0.env.defers], hd0.env.get⟩, ?_⟩
      exact ((hs.upd hu).sub ((List.sublist_cons_self _ _).append_left _)).ch rfl rfl
end
end Go.Eng

/-
  The engine, part 13: slices of structs that are known; appends onto slices that are known.
-/
namespace Go.Eng
open Go

/-- What is known of a slice of things of some kind, each of sz cells. -/
structure RowsK {α : Type} (enc : α → List Value) (sz : Nat) (F : Know) (A : Option Addr) (n : Nat) (xs : List α) : Prop where
  len : n = xs.length
  at_ : ∀ (i : Nat) (x : α), xs[i]? = some x → ∃ a, A = some a ∧ ∀ j u, (enc x)[j]? = some u → F (a.add (i * sz + j)) = some u

section
variable {α : Type} {enc : α → List Value} {sz : Nat} {F F' : Know} {A : Option Addr} {n : Nat} {xs : List α}

theorem RowsK.some (h : RowsK enc sz F A n xs) {i : Nat} (hi : i < xs.length) : ∃ a, A = Option.some a := by
  obtain ⟨a, ha, _⟩ := h.at_ i xs[i] (List.getElem?_eq_getElem hi)
  exact ⟨a, ha⟩
theorem RowsK.mono (h : RowsK enc sz F A n xs) (hF : ∀ a v, F a = Option.some v → F' a = Option.some v) : RowsK enc sz F' A n xs :=
  ⟨h.len, fun i x hx => by obtain ⟨a, h1, h2⟩ := h.at_ i x hx; exact ⟨a, h1, fun j u hu => hF _ _ (h2 j u hu)⟩⟩
/-- One element. -/
theorem RowsK.cells {a : Addr} (h : RowsK enc sz F (Option.some a) n xs) {i : Int} {k : Nat} (hk : i.toNat = k) (hi : k < xs.length) (he : (enc xs[k]).length = sz) : ∀ j, j < sz → F ((a.add (i.toNat * sz)).add j) = (enc xs[k])[j]? := by
  intro j hj
  obtain ⟨b, hb, h1⟩ := h.at_ k xs[k] (List.getElem?_eq_getElem hi)
  cases hb
  rw [add_add, hk, List.getElem?_eq_getElem (by omega)]
  exact h1 j _ (List.getElem?_eq_getElem (by omega))
/-- One cell of one element. -/
theorem RowsK.cell {a : Addr} (h : RowsK enc sz F (Option.some a) n xs) {i : Int} {k : Nat} (hk : i.toNat = k) (hi : k < xs.length) {j : Nat} {u : Value} (hu : (enc xs[k])[j]? = Option.some u) : F ((a.add (i.toNat * sz)).add j) = Option.some u := by
  obtain ⟨b, hb, h1⟩ := h.at_ k xs[k] (List.getElem?_eq_getElem hi)
  cases hb
  rw [add_add, hk]
  exact h1 j u hu
theorem RowsK.cell1 {a : Addr} (h : RowsK enc sz F (Option.some a) n xs) {i : Int} {k : Nat} (hk : i.toNat = k) (hi : k < xs.length) {u : Value} (hu : enc xs[k] = [u]) : F (a.add (i.toNat * sz)) = Option.some u := by
  obtain ⟨b, hb, h1⟩ := h.at_ k xs[k] (List.getElem?_eq_getElem hi)
  cases hb
  rw [hk]
  have := h1 0 u (by rw [hu]; rfl)
  rwa [Nat.add_zero] at this
theorem RowsK.nil : RowsK enc sz F A 0 [] := ⟨rfl, fun i x h => by simp at h⟩
theorem RowsK.take (h : RowsK enc sz F A n xs) (k : Nat) (hk : k ≤ n) : RowsK enc sz F A k (xs.take k) := by
  refine ⟨by rw [List.length_take, ← h.len]; omega, fun i x hx => h.at_ i x ?_⟩
  rw [List.getElem?_take] at hx
  split at hx
  · exact hx
  · cases hx
theorem RowsK.drop (h : RowsK enc sz F A n xs) (k : Nat) : RowsK enc sz F (A.map (·.add (k * sz))) (n - k) (xs.drop k) := by
  refine ⟨by rw [List.length_drop, ← h.len], fun i x hx => ?_⟩
  rw [List.getElem?_drop] at hx
  obtain ⟨a, rfl, h1⟩ := h.at_ (k + i) x hx
  refine ⟨_, rfl, fun j u hu => ?_⟩
  rw [add_add, show k * sz + (i * sz + j) = (k + i) * sz + j by rw [Nat.add_mul, Nat.add_assoc]]
  exact h1 j u hu
/-- The part from k on, as a slice expression gives it. -/
theorem RowsK.from (h : RowsK enc sz F A n xs) {cap : Nat} (k : Nat) (hk : k ≤ n) (hc : n ≤ cap) : RowsK enc sz F (if cap = k then A else A.map (·.add (k * sz))) (n - k) (xs.drop k) := by
  split
  · have e : xs.drop k = [] := List.drop_eq_nil_of_le (by rw [← h.len]; omega)
    have e2 : n - k = 0 := by omega
    rw [e, e2]; exact RowsK.nil
  · exact h.drop k

/-- All cells of a list of things. -/
def rowsV (enc : α → List Value) (xs : List α) : List Value := xs.flatMap enc
theorem rowsV_len (he : ∀ x : α, (enc x).length = sz) (xs : List α) : (rowsV enc xs).length = xs.length * sz := by
  induction xs with
  | nil => simp [rowsV]
  | cons x r ih =>
    have : rowsV enc (x :: r) = enc x ++ rowsV enc r := rfl
    rw [this, List.length_append, he, ih, List.length_cons, Nat.add_mul, Nat.one_mul, Nat.add_comm]
theorem rowsV_app (xs ys : List α) : rowsV enc (xs ++ ys) = rowsV enc xs ++ rowsV enc ys := by simp [rowsV]
theorem rowsV_one (x : α) : rowsV enc [x] = enc x := by simp [rowsV]
theorem rowsV_get (he : ∀ x : α, (enc x).length = sz) : ∀ (xs : List α) (i : Nat) (x : α) (j : Nat) (u : Value), xs[i]? = Option.some x → (enc x)[j]? = Option.some u → (rowsV enc xs)[i * sz + j]? = Option.some u
  | [], i, x, j, u, h, _ => by simp at h
  | y :: r, 0, x, j, u, h, hu => by
    simp at h; subst h
    have : rowsV enc (y :: r) = enc y ++ rowsV enc r := rfl
    rw [this, Nat.zero_mul, Nat.zero_add, List.getElem?_append_left (List.getElem?_eq_some_iff.1 hu).1]
    exact hu
  | y :: r, i + 1, x, j, u, h, hu => by
    have e : rowsV enc (y :: r) = enc y ++ rowsV enc r := rfl
    rw [e, List.getElem?_append_right (by rw [he, Nat.add_mul]; omega), he, show (i + 1) * sz + j - sz = i * sz + j by rw [Nat.add_mul]; omega]
    exact rowsV_get he r i x j u (by simpa using h) hu
theorem rowsV_inv (he : ∀ x : α, (enc x).length = sz) (hz : 0 < sz) : ∀ (xs : List α) (k : Nat) (u : Value), (rowsV enc xs)[k]? = Option.some u → ∃ x, xs[k / sz]? = Option.some x ∧ (enc x)[k % sz]? = Option.some u
  | [], k, u, h => by simp [rowsV] at h
  | y :: r, k, u, h => by
    have e : rowsV enc (y :: r) = enc y ++ rowsV enc r := rfl
    rw [e] at h
    rcases Nat.lt_or_ge k sz with hk | hk
    · rw [List.getElem?_append_left (by rw [he]; exact hk)] at h
      rw [Nat.div_eq_of_lt hk, Nat.mod_eq_of_lt hk]
      exact ⟨y, rfl, h⟩
    · rw [List.getElem?_append_right (by rw [he]; exact hk), he] at h
      obtain ⟨x, h1, h2⟩ := rowsV_inv he hz r (k - sz) u h
      have e1 : k / sz = (k - sz) / sz + 1 := by
        rw [Nat.div_eq_sub_div hz hk]
      have e2 : k % sz = (k - sz) % sz := by rw [Nat.mod_eq_sub_mod hk]
      rw [e1, e2]
      exact ⟨x, by simpa using h1, h2⟩
/-- What is known of a slice, cell for cell. -/
theorem RowsK.flat (h : RowsK enc sz F A n xs) (he : ∀ x : α, (enc x).length = sz) (hz : 0 < sz) : ∀ j u, (rowsV enc xs)[j]? = Option.some u → ∃ a, A = Option.some a ∧ F (a.add j) = Option.some u := by
  intro j u hj
  obtain ⟨x, h1, h2⟩ := rowsV_inv he hz xs j u hj
  obtain ⟨a, ha, h3⟩ := h.at_ _ x h1
  refine ⟨a, ha, ?_⟩
  have := h3 _ u h2
  rwa [Nat.div_add_mod' j sz] at this
/-- A slice of one's own that is known later. -/
theorem rowsK_of (he : ∀ x : α, (enc x).length = sz) (hz : 0 < sz) (hF : ∀ j u, (rowsV enc xs)[j]? = Option.some u → ∃ a, A = Option.some a ∧ F (a.add j) = Option.some u) (hn : n = xs.length) : RowsK enc sz F A n xs := by
  refine ⟨hn, fun i x hx => ?_⟩
  have key : ∀ j u, (enc x)[j]? = Option.some u → ∃ a, A = Option.some a ∧ F (a.add (i * sz + j)) = Option.some u := fun j u hu => hF _ u (rowsV_get he xs i x j u hx hu)
  have h0 : 0 < (enc x).length := by rw [he]; exact hz
  obtain ⟨a, ha, _⟩ := key 0 (enc x)[0] (List.getElem?_eq_getElem h0)
  subst ha
  exact ⟨a, rfl, fun j u hu => by obtain ⟨b, hb, h⟩ := key j u hu; cases hb; exact h⟩
theorem SlO.rows {e : TypeId} {v : Value} {b : Own} (h : SlO e sz v n (rowsV enc xs) b) (he : ∀ x : α, (enc x).length = sz) (hz : 0 < sz) {F' : Know} (hF : ∀ p cs t fr k, (p, Obj.cells cs t fr) ∈ b → ∀ u, cs[k]? = Option.some u → F' ⟨p, k, none⟩ = Option.some u) :
    ∃ A cap, v = .slice A n cap ∧ n ≤ cap ∧ cap ≤ maxLen ∧ RowsK enc sz F' A n xs := by
  obtain ⟨A, cap, rfl, h1, h2, h3⟩ := h.later hF
  refine ⟨A, cap, rfl, h1, h2, rowsK_of he hz h3 ?_⟩
  have := h.1
  rw [rowsV_len he] at this
  exact (Nat.eq_of_mul_eq_mul_right hz this).symm
end

section
variable {c : Cx} {env : Env} {F : Know} {own : Own} {Q : Exit → Act → World → Prop}
variable {ty : TypeId} {ps : String} {af : Array Edge} {g : Option (Nat × Bool)} {l : List Oper} {k : Nat} {draw : Bool}

/-- A block made by a barrier. -/
theorem dm {o : Oper} {V : Nat → Value → Obj → Prop} {t : Tmp} (ho : nthO l k = some o) (hB : aloneB l.toArray k = true) (hN : New c F own env o V) (ht : o.dst = some t) (hd : Nat.blt t c.n = true) (hw : wantedB l.toArray env o)
    (h : ∀ p v ob, V p v ob → R c true l.toArray Q (k + 1) ((t, v) :: env) F ((p, ob) :: own)) : R c true l.toArray Q k env F own :=
  r_new (by rw [← nthO_eq]; exact ho) (fun _ => hB) (by rw [ht]; exact hd) hw hN (by rw [ht]; exact h)

/-- An append onto a slice without room that is known, or one's own. -/
theorem new_appK {s x : Operand} {T e : TypeId} {size bytes : Nat} {d : Option Tmp} {B : Option Addr} {A : Option Addr} {n m cp : Nat} {xs news : List Value} (hT : AppT c.P T e size bytes) (hv : Env.ev env s = some (.slice B n n)) (hx : Env.ev env x = some (.slice A m cp))
    (hxl : xs.length = n * size) (hl : news.length = m * size) (h0 : 0 < m) (holds : ∀ w, Sat c F own w → ∀ j u, xs[j]? = some u → ∃ b, B = some b ∧ w.cell? (b.add j) = some u) (hnews : ∀ w, Sat c F own w → ∀ j u, news[j]? = some u → ∃ a, A = some a ∧ w.cell? (a.add j) = some u)
    (hm : (n + m) * bytes ≤ 140737488355328) (hm2 : n + m ≤ maxLen) :
    New c F own env ⟨d, .call { callee := .builtin .append, args := #[s, x], argTypes := #[T, T] }, ty, ps, af, g⟩ (fun p v ob => SlO e size v (n + m) (xs ++ news) [(p, ob)]) := by
  intro a ha w hw
  obtain ⟨i, z, hi, hz, hsz, hby, hzs⟩ := hT.el
  subst hsz; subst hby
  have hpos := hT.pos
  have holds := holds w hw
  have hnews := hnews w hw
  obtain ⟨ad, rfl⟩ : ∃ a, A = some a := by
    have h0 : 0 < news.length := by rw [hl]; exact Nat.mul_pos h0 hpos
    obtain ⟨a, ha, _⟩ := hnews 0 news[0] (List.getElem?_eq_getElem h0)
    exact ⟨a, ha⟩
  have hnw : ∀ j u, news[j]? = some u → w.cell? (ad.add j) = some u := fun j u hj => by
    obtain ⟨a', ha, h2⟩ := hnews j u hj
    cases ha; exact h2
  have hsmall : n + m ≤ 9223372036854775807 := by simp only [maxLen] at hm2; omega
  have hlen : (xs ++ news).length = (n + m) * i.size := by rw [List.length_append, hxl, hl, Nat.add_mul]
  have hSl : ∀ old, SlO e i.size (.slice (some ⟨w.heap.size, 0, none⟩) (n + m) (grownCap w (n + m) old e)) (n + m) (xs ++ news) [(w.heap.size, .cells (xs.toArray ++ news.toArray ++ Builtin.zeroCells z.cells (grownCap w (n + m) old e - (n + m))) e)] := fun old => by
    refine ⟨hlen, .inr ⟨_, _, (Builtin.zeroCells z.cells (grownCap w (n + m) old e - (n + m))).toList, rfl, by simp, grownCap_ge w (n + m) old e, grownCap_le_maxLen w (n + m) old e hm2, ?_⟩⟩
    have hge := grownCap_ge w (n + m) old e
    rw [List.length_append, hlen, Array.length_toList, size_zeroCells, hzs, ← Nat.add_mul]
    congr 1; omega
  have hgr : ∀ old, Grew w (w.drew.alloc (.cells (xs.toArray ++ news.toArray ++ Builtin.zeroCells z.cells (grownCap w (n + m) old e - (n + m))) e)) (some (.cells (xs.toArray ++ news.toArray ++ Builtin.zeroCells z.cells (grownCap w (n + m) old e - (n + m))) e)) := fun old =>
    ⟨rfl, rfl, rfl, by show w.heap.push _ = _; simp⟩
  have hrun : ∃ old, (Builtin.append_ #[T, T] ty #[.slice B n n, .slice (some ad) m cp]).run c.P w = .ok (.slice (some ⟨w.heap.size, 0, none⟩) (n + m) (grownCap w (n + m) old e)) (w.drew.alloc (.cells (xs.toArray ++ news.toArray ++ Builtin.zeroCells z.cells (grownCap w (n + m) old e - (n + m))) e)) := by
    cases B with
    | none =>
      have hn : n = 0 := by
        rcases Nat.eq_zero_or_pos n with h | h
        · exact h
        · have h1 : 0 < xs.length := by rw [hxl]; exact Nat.mul_pos h hpos
          obtain ⟨b, hb, _⟩ := holds 0 xs[0] (List.getElem?_eq_getElem h1)
          cases hb
      subst hn
      have hxs : xs = [] := List.eq_nil_of_length_eq_zero (by simpa using hxl)
      subst hxs
      refine ⟨0, ?_⟩
      have hr := run_append_nil (P := c.P) w T ty e i z hT.ud hi hz ad m cp news hl hnw h0 (by omega) (by simp only [Nat.zero_add] at hm; omega)
      simpa using hr
    | some b =>
      refine ⟨n, ?_⟩
      have ho : ∀ j u, xs[j]? = some u → w.cell? (b.add j) = some u := fun j u hj => by
        obtain ⟨b', hb, h2⟩ := holds j u hj
        cases hb; exact h2
      exact run_append_grow (P := c.P) w T ty e i z hT.ud hi hz b n n xs hxl ho ad m cp news hl hnw (by omega) (by omega) (growslice_fits (by omega) hm)
  obtain ⟨old, hrun⟩ := hrun
  refine ⟨_, _, _, ?_, hgr old, hSl old⟩
  unfold execOp
  simp only [resolve, invoke, builtin, Sem.run_bind, Sem.run_pure, Result.andThen_ok, List.map_toArray, List.map_cons, List.map_nil, ha.eval hv, ha.eval hx]
  rw [hrun]
  rfl

/-- x[:a:a]. -/
theorem det_slice3 {d : Option Tmp} {t e : TypeId} {sz : Nat} {x hi mx : Operand} {A : Option Addr} {n cap a : Nat} (ht : SliceOf c.P t e sz) (hx : Env.ev env x = some (.slice A n cap))
    (hh : Env.ev env hi = some (.int .i64 (a : Int))) (hm : Env.ev env mx = some (.int .i64 (a : Int))) (b : a ≤ cap) :
    Det c F own env ⟨d, .slice t x none (some hi) (some mx), ty, ps, af, g⟩ (.slice A a a) := by
  have h := det_slice (c := c) (F := F) (own := own) (d := d) (ty := ty) (ps := ps) (af := af) (g := g) (t := t) (lo := none) (hi := some hi) (mx := some mx) (l := none) (h := some (a : Int)) (m := some (a : Int)) ht hx rfl (by simp [bndOf, hh]) (by simp [bndOf, hm]) (by simp) (by simp only [Option.getD_none, Option.getD_some]; omega)
  simp only [Option.getD_none, Option.getD_some, Int.toNat_zero, Nat.sub_zero, Nat.zero_mul, Int.toNat_natCast] at h
  have e : (if a = 0 then A else A.map fun x => x.add 0) = A := by
    split
    · rfl
    · cases A <;> simp [add_zero']
  rw [e] at h
  exact h
/-- x[k:]. -/
theorem det_sliceLo {d : Option Tmp} {t e : TypeId} {sz : Nat} {x lo : Operand} {A : Option Addr} {n cap : Nat} {m : Int} (k : Nat) (ht : SliceOf c.P t e sz) (hx : Env.ev env x = some (.slice A n cap))
    (hl : Env.ev env lo = some (.int .i64 m)) (hk : m = (k : Int)) (b : k ≤ n) (hc : n ≤ cap) :
    Det c F own env ⟨d, .slice t x (some lo) none none, ty, ps, af, g⟩ (.slice (if cap = k then A else A.map (·.add (k * sz))) (n - k) (cap - k)) := by
  subst hk
  have h := det_slice (c := c) (F := F) (own := own) (d := d) (ty := ty) (ps := ps) (af := af) (g := g) (t := t) (lo := some lo) (hi := none) (mx := none) (l := some (k : Int)) (h := none) (m := none) ht hx (by simp [bndOf, hl]) rfl rfl (by simp) (by simp only [Option.getD_none, Option.getD_some]; omega)
  simp only [Option.getD_none, Option.getD_some, Int.toNat_natCast] at h
  exact h

/-- An append to a slice of one's own, whose block stands first; behind it, it stands last. -/
theorem oAppH {s x : Operand} {T e : TypeId} {size bytes : Nat} {b post : Own} {v : Value} {n : Nat} {xs : List Value} {A : Option Addr} {m cp : Nat} {news : List Value} {t : Tmp} (hB : draw = true → aloneB l.toArray k = true)
    (ho : nthO l k = some ⟨some t, .call { callee := .builtin .append, args := #[s, x], argTypes := #[T, T] }, ty, ps, af, g⟩) (hT : AppT c.P T e size bytes) (hv : Env.ev env s = some v) (hx : Env.ev env x = some (.slice A m cp))
    (hd : Nat.blt t c.n = true) (hw : wantedB l.toArray env ⟨some t, .call { callee := .builtin .append, args := #[s, x], argTypes := #[T, T] }, ty, ps, af, g⟩)
    (hS : SlO e size v n xs b) (hl : news.length = m * size) (hnews : ∀ w, Sat c F (post ++ b) w → ∀ j u, news[j]? = some u → ∃ a, A = some a ∧ w.cell? (a.add j) = some u) (h1 : ∀ u ∈ news, u.oneCell' = true)
    (hm : (n + m) * bytes ≤ 140737488355328) (hm2 : n + m ≤ maxLen)
    (hn : ∀ A' cp' b', SlO e size (.slice A' (n + m) cp') (n + m) (xs ++ news) b' → R c draw l.toArray Q (k + 1) ((t, .slice A' (n + m) cp') :: env) F (post ++ b')) : R c draw l.toArray Q k env F (b ++ post) :=
  tk_perm List.perm_append_comm (oAppS hB ho hT hv hx hd hw hS hl hnews h1 hm hm2 hn)
end
end Go.Eng

/-
  The frame of a law: its arguments opened; what holds behind the call out of what the walk shows.
-/
namespace Go.Eng
open Go Go.ChangeShapes Go.WideShapes Go.RowKit

section
variable {H : Type} {enc : TypeId × Value → H} {P : Program} {w : World} {base : Nat} {spare : Nat → Bool} {held : Bool}

/-- A list, one thing for each number. -/
theorem choose_list {α : Type} {p : Nat → α → Prop} : ∀ (n : Nat), (∀ i, i < n → ∃ x, p i x) → ∃ xs : List α, xs.length = n ∧ ∀ (i : Nat) (x : α), xs[i]? = some x → p i x
  | 0, _ => ⟨[], rfl, fun i x h => by simp at h⟩
  | n + 1, h => by
    obtain ⟨xs, h1, h2⟩ := choose_list n fun i hi => h i (by omega)
    obtain ⟨x, hx⟩ := h n (by omega)
    refine ⟨xs ++ [x], by simp [h1], fun i y hy => ?_⟩
    rw [List.getElem?_append] at hy
    split at hy
    · exact h2 i y hy
    · rename_i hi
      rw [List.getElem?_singleton] at hy
      split at hy
      · injection hy with e
        have : i = n := by omega
        subst this; exact e ▸ hx
      · cases hy

theorem lit_rng {k : IntKind} {n : Int} (h : (Lit.int k n).wf = true) : k.min ≤ n ∧ n ≤ k.max := by
  simpa [Lit.wf] using h

theorem cells_some {n : Nat} {a : Addr} {cs : List Value} (h : w.cells? base a n = some cs) : cs.length = n ∧ ∀ j u, cs[j]? = some u → w.cell? (a.add j) = some u := by
  unfold World.cells? at h
  split at h
  · have key : ∀ (n : Nat) (f : Nat → Option Value) (cs : List Value), (List.range n).mapM f = some cs → cs.length = n ∧ ∀ j u, cs[j]? = some u → f j = some u := by
      intro n
      induction n with
      | zero => intro f cs h; simp at h; subst h; exact ⟨rfl, fun j u h => by simp at h⟩
      | succ n ih =>
        intro f cs h
        rw [List.range_succ, List.mapM_append] at h
        simp only [Option.bind_eq_bind, Option.bind_eq_some_iff, List.mapM_cons, List.mapM_nil, Option.pure_def, Option.some.injEq] at h
        obtain ⟨xs, hx, ys, ⟨y, hy, zs, rfl, rfl⟩, rfl⟩ := h
        obtain ⟨h1, h2⟩ := ih f xs hx
        refine ⟨by simp [h1], fun j u hj => ?_⟩
        rw [List.getElem?_append] at hj
        split at hj
        · exact h2 j u hj
        · rename_i hn
          rw [List.getElem?_singleton] at hj
          split at hj
          · injection hj with e
            have : j = n := by omega
            subst this; exact e ▸ hy
          · cases hj
    exact key n _ cs h
  · cases h

/-- A cell that reads as a slice. -/
theorem op_slice {t e : TypeId} {fuel : Nat} {cs : List Value} {x : DataW H × List MemPlace} (ht : P.underlying t = some (.slice e)) (h : DataW.trod enc P w base spare held fuel t cs = some x) :
    ∃ A n cap, cs = [.slice A n cap] ∧ n ≤ cap ∧ cap ≤ maxLen ∧ ∀ i, i < n → ∃ a, A = some a ∧ ∃ (cl : List Value) (f' : Nat) (y : DataW H × List MemPlace), w.cells? base (a.add (i * P.cellsOf e)) (P.cellsOf e) = some cl ∧ DataW.trod enc P w base spare held f' e cl = some y := by
  cases fuel with
  | zero => simp [DataW.trod] at h
  | succ m =>
    unfold DataW.trod at h
    rw [ht] at h
    split at h <;> try (first | contradiction | (rename_i h0; cases h0))
    all_goals first
      | (exact ⟨none, 0, 0, rfl, Nat.le_refl _, Nat.zero_le _, fun i hi => absurd hi (Nat.not_lt_zero _)⟩)
      | skip
    rename_i a len cap
    dsimp only at h
    split at h
    · rename_i hc
      rw [Option.bind_eq_some_iff] at h
      obtain ⟨elems, he, _⟩ := h
      refine ⟨some a, len, cap, rfl, hc.2.1, hc.2.2, fun i hi => ⟨a, rfl, ?_⟩⟩
      have key : ∀ (n : Nat) (f : Nat → Option (DataW H × List MemPlace)) (r : List (DataW H × List MemPlace)), (List.range n).mapM f = some r → ∀ i, i < n → ∃ y, f i = some y := by
        intro n
        induction n with
        | zero => intro f r _ i hi; omega
        | succ n ih =>
          intro f r h i hi
          rw [List.range_succ, List.mapM_append] at h
          simp only [Option.bind_eq_bind, Option.bind_eq_some_iff, List.mapM_cons, List.mapM_nil, Option.pure_def, Option.some.injEq] at h
          obtain ⟨xs, hx, ys, ⟨y, hy, _⟩, _⟩ := h
          by_cases e : i = n
          · subst e; exact ⟨y, hy⟩
          · exact ih f xs hx i (by omega)
      obtain ⟨y, hy⟩ := key len _ elems he i hi
      rw [Option.bind_eq_some_iff] at hy
      obtain ⟨cl, h1, h2⟩ := hy
      exact ⟨cl, m, y, h1, h2⟩
    · cases h

/-- The fields of cells that read as a struct. -/
theorem op_struct {t : TypeId} {fs : Array Field} {fuel : Nat} {cs : List Value} {x : DataW H × List MemPlace} (ht : P.underlying t = some (.struct fs)) (h : DataW.trod enc P w base spare held fuel t cs = some x) :
    cs.length = P.cellsOf t ∧ ∀ (i : Nat) (f : Field), fs[i]? = some f → ∃ (m : Nat) (y : DataW H × List MemPlace), DataW.trod enc P w base spare held m f.type ((cs.drop f.offset).take (P.cellsOf f.type)) = some y := by
  obtain ⟨xs, n, _, _, h1, h2, h3⟩ := DataW.trod_struct ht h
  refine ⟨h1, fun i f hf => ?_⟩
  have h4 := h3 i f hf
  have hi : i < xs.length := by
    rw [h2]; exact (Array.getElem?_eq_some_iff.1 hf).1
  exact ⟨n, xs[i], by rw [h4, List.getElem?_eq_getElem hi]⟩

/-- The elements of cells that read as an array. -/
theorem op_array {t e : TypeId} {n : Nat} {fuel : Nat} {cs : List Value} {x : DataW H × List MemPlace} (ht : P.underlying t = some (.array n e)) (h : DataW.trod enc P w base spare held fuel t cs = some x) :
    cs.length = P.cellsOf t ∧ ∀ i, i < n → ∃ (m : Nat) (y : DataW H × List MemPlace), DataW.trod enc P w base spare held m e ((cs.drop (i * P.cellsOf e)).take (P.cellsOf e)) = some y := by
  cases fuel with
  | zero => simp [DataW.trod] at h
  | succ m =>
    unfold DataW.trod at h
    rw [ht] at h
    dsimp only at h
    split at h
    · rename_i hc
      rw [Option.map_eq_some_iff] at h
      obtain ⟨r, hr, _⟩ := h
      refine ⟨hc, fun i hi => ?_⟩
      have key : ∀ (n : Nat) (f : Nat → Option (DataW H × List MemPlace)) (r : List (DataW H × List MemPlace)), (List.range n).mapM f = some r → ∀ i, i < n → ∃ y, f i = some y := by
        intro n
        induction n with
        | zero => intro f r _ i hi; omega
        | succ n ih =>
          intro f r h i hi
          rw [List.range_succ, List.mapM_append] at h
          simp only [Option.bind_eq_bind, Option.bind_eq_some_iff, List.mapM_cons, List.mapM_nil, Option.pure_def, Option.some.injEq] at h
          obtain ⟨xs, hx, ys, ⟨y, hy, _⟩, _⟩ := h
          by_cases e : i = n
          · subst e; exact ⟨y, hy⟩
          · exact ih f xs hx i (by omega)
      obtain ⟨y, hy⟩ := key n _ r hr i hi
      exact ⟨m, y, hy⟩
    · cases h

/-- A value of a struct's or an array's type: its cells, and how they read. -/
theorem op_agg {r : Reach} {b0 : Nat} {t : TypeId} {v : Value} {d : DataW H} {p : List MemPlace} {n : Nat} (ht : (∃ fs, P.underlying t = some (.struct fs)) ∨ (∃ m e, P.underlying t = some (.array m e))) (hn : P.cellsOf t = n)
    (hv : Value.okWide P w r b0 t v) (h : DataW.Trod enc P w base spare held t v d p) : ∃ (cs : List Value) (fuel : Nat) (y : DataW H × List MemPlace), v = .agg cs.toArray ∧ cs.length = n ∧ DataW.trod enc P w base spare held fuel t cs = some y := by
  have key : ∃ cs, v = .agg cs ∧ cs.size = P.cellsOf t := by
    rcases ht with ⟨fs, ht⟩ | ⟨m, e, ht⟩ <;> simp only [Value.okWide, ht] at hv <;> obtain ⟨cs, h1, h2, _⟩ := hv <;> exact ⟨cs, h1, h2⟩
  obtain ⟨cs, rfl, hsz⟩ := key
  obtain ⟨fuel, hf⟩ := h
  exact ⟨cs.toList, fuel, _, by simp, by simp [hsz, hn], by simpa [Value.cells] using hf⟩

/-- A value of a slice's type. -/
theorem op_one {r : Reach} {b0 : Nat} {t e : TypeId} {v : Value} {d : DataW H} {p : List MemPlace} (ht : P.underlying t = some (.slice e))
    (hv : Value.okWide P w r b0 t v) (h : DataW.Trod enc P w base spare held t v d p) : ∃ (fuel : Nat) (y : DataW H × List MemPlace), DataW.trod enc P w base spare held fuel t [v] = some y := by
  obtain ⟨fuel, hf⟩ := h
  refine ⟨fuel, (d, p), ?_⟩
  have e1 : v.cells = #[v] := by
    simp only [Value.okWide, ht] at hv
    unfold Cell.okWide Cell.ok at hv
    simp only [ht] at hv
    cases v <;> first | rfl | (exfalso; simp at hv; done)
  rw [e1] at hf
  simpa using hf

theorem list1 {α : Type} {l : List α} (h : l.length = 1) : ∃ a, l = [a] := by
  match l, h with
  | [a], _ => exact ⟨a, rfl⟩
theorem listS {α : Type} {l : List α} {n : Nat} (h : l.length = n + 1) : ∃ a r, l = a :: r ∧ r.length = n := by
  match l, h with
  | a :: r, h => exact ⟨a, r, rfl, by simpa using h⟩
theorem list0 {α : Type} {l : List α} (h : l.length = 0) : l = [] := List.eq_nil_of_length_eq_zero h

theorem op_int {t : TypeId} {k : IntKind} {fuel : Nat} {cs : List Value} {x : DataW H × List MemPlace} (ht : P.underlying t = some (.int k)) (h : DataW.trod enc P w base spare held fuel t cs = some x) : ∃ n, cs = [.int k n] ∧ k.min ≤ n ∧ n ≤ k.max := by
  obtain ⟨n, h1, _, h2⟩ := DataW.trod_int ht h
  exact ⟨n, h1, lit_rng h2⟩

/-- A slice of numbers. -/
theorem op_ints {t e : TypeId} {k : IntKind} {fuel : Nat} {cs : List Value} {x : DataW H × List MemPlace} (ht : P.underlying t = some (.slice e)) (he : P.underlying e = some (.int k)) (hc : P.cellsOf e = 1) (h : DataW.trod enc P w base spare held fuel t cs = some x) :
    ∃ A n cap xs, cs = [.slice A n cap] ∧ n ≤ cap ∧ IntsK (fun a => w.cell? a) k A n xs := by
  obtain ⟨A, n, cap, h1, h2, _, h3⟩ := op_slice ht h
  obtain ⟨xs, g1, g2⟩ := choose_list (p := fun i (x : Int) => (∃ a, A = some a ∧ w.cell? (a.add i) = some (.int k x)) ∧ k.min ≤ x ∧ x ≤ k.max) n fun i hi => by
    obtain ⟨a, ha, cl, f', y, k1, k2⟩ := h3 i hi
    obtain ⟨m, rfl, k3⟩ := op_int he k2
    obtain ⟨_, k4⟩ := cells_some k1
    have := k4 0 _ rfl
    rw [hc, Nat.mul_one, show (a.add i).add 0 = a.add i from add_zero' _] at this
    exact ⟨m, ⟨a, ha, this⟩, k3⟩
  exact ⟨A, n, cap, xs, h1, h2, g1.symm, fun i x hx => (g2 i x hx).1, fun i hi => (g2 i _ (List.getElem?_eq_getElem hi)).2⟩

/-- A slice of structs, its elements opened by hel. -/
theorem op_rows {α : Type} {t e : TypeId} {sz fuel : Nat} {ev : α → List Value} {ok : α → Prop} {cs : List Value} {x : DataW H × List MemPlace} (ht : P.underlying t = some (.slice e)) (hc : P.cellsOf e = sz)
    (hel : ∀ (cl : List Value) (f' : Nat) (y : DataW H × List MemPlace), cl.length = sz → DataW.trod enc P w base spare held f' e cl = some y → ∃ x : α, cl = ev x ∧ ok x) (h : DataW.trod enc P w base spare held fuel t cs = some x) :
    ∃ A n cap xs, cs = [.slice A n cap] ∧ n ≤ cap ∧ cap ≤ maxLen ∧ RowsK ev sz (fun a => w.cell? a) A n xs ∧ ∀ x ∈ xs, ok x := by
  obtain ⟨A, n, cap, h1, h2, h0, h3⟩ := op_slice ht h
  obtain ⟨xs, g1, g2⟩ := choose_list (p := fun i (x : α) => (∃ a, A = some a ∧ ∀ j u, (ev x)[j]? = some u → w.cell? (a.add (i * sz + j)) = some u) ∧ ok x) n fun i hi => by
    obtain ⟨a, ha, cl, f', y, k1, k2⟩ := h3 i hi
    rw [hc] at k1
    obtain ⟨k3, k4⟩ := cells_some k1
    obtain ⟨x, rfl, k5⟩ := hel cl f' y k3 k2
    refine ⟨x, ⟨a, ha, fun j u hu => ?_⟩, k5⟩
    have := k4 j u hu
    rwa [add_add] at this
  refine ⟨A, n, cap, xs, h1, h2, h0, ⟨g1.symm, fun i x hx => (g2 i x hx).1⟩, fun x hx => ?_⟩
  obtain ⟨i, hi⟩ := List.getElem?_of_mem hx
  exact (g2 i x hi).2
theorem op_bool {t : TypeId} {fuel : Nat} {cs : List Value} {x : DataW H × List MemPlace} (ht : P.underlying t = some .bool) (h : DataW.trod enc P w base spare held fuel t cs = some x) : ∃ b, cs = [.bool b] := by
  obtain ⟨b, h1, _⟩ := DataW.trod_bool ht h
  exact ⟨b, h1⟩

theorem trodAll_carry (hl : laidOutB P = true) {W W' : World} (hb : Below W.heap.size W W') : ∀ {ts : List TypeId} {vs : List Value} {ds : List (DataW H)} {ps : List MemPlace}, ts.all (fun t => P.readableRec t && decide (t < P.types.size)) = true →
    DataW.TrodAll enc P W 0 (fun _ => true) true ts vs ds ps → (∀ x ∈ ps, x.block < W.heap.size) → DataW.TrodAll enc P W' 0 (fun b => decide (b < W.heap.size)) true ts vs ds ps
  | [], [], [], _, _, h, _ => h
  | t :: ts, v :: vs, d :: ds, ps, hr, ⟨p, q, h1, h2, e⟩, hlt => by
    simp only [List.all_cons, Bool.and_eq_true, decide_eq_true_eq] at hr
    exact ⟨p, q, Below.trod hl hr.1.1 hr.1.2 h1 hb (fun x hx => hlt x (by rw [e]; exact List.mem_append_left _ hx)),
      trodAll_carry hl hb (by simpa using hr.2) h2 (fun x hx => hlt x (by rw [e]; exact List.mem_append_right _ hx)), e⟩

/-- Behind a law's call: true; each argument as it was. -/
theorem post_law {f : Func} {s : ChangeSpec} {W W' : World} {args : Array Value} {ds : List (DataW H)} {before : List MemPlace} {tb : TypeId} {v : Value}
    (hl : laidOutB P = true) (hrd : f.params.toList.all (fun t => P.readableRec t && decide (t < P.types.size)) = true) (hr : f.resultTypes = #[tb]) (hb : P.underlying tb = some .bool) (hv : s.vars = [])
    (hW : DataW.Whole enc P f.params.toList s.vars false W args.toList ds [] before) (hs : s.fn H (ds ++ []) = { results := [.lit (.bool true)], args := ds }) (hk : Keep [] W W') (he : v = .bool true) :
    s.post enc P f false true false false W args v W' := by
  subst he
  have hlt := fun p hp => hW.lt p hp
  have hW0 := hW
  obtain ⟨p, q, hA, hV, rfl, _, _⟩ := hW
  rw [hv] at hV
  obtain ⟨_, rfl⟩ := trodVars_none hV
  have hbl : Below W.heap.size W W' := ⟨hk.os, hk.tape, hk.output, hk.size, fun k hk' => hk.old k hk' (by simp)⟩
  refine ⟨ds, [], p ++ [], [], p, [], hW0, ?_, ?_, ?_, ⟨hk.os, hk.output, fun i hi => ?_⟩, nofun⟩
  · rw [hs, hr]; exact trodAll_mk1 (shut_bool hb true)
  · rw [hs]
    exact trodAll_carry hl hbl hrd hA fun x hx => hlt x (List.mem_append_left _ hx)
  · rw [hs, hv]; rfl
  · rw [hk.old i hi (by simp)]
    cases W.heap[i]? with
    | none => rfl
    | some o => cases o <;> first | exact ⟨rfl, rfl, rfl, fun _ _ => rfl⟩ | exact .inr ⟨rfl, rfl⟩ | rfl
end
end Go.Eng

/-
  The engine, part 6: bits.
-/
namespace Go.Eng
open Go
theorem bv_clear (x : BitVec 64) (j : Nat) : (x &&& ~~~(BitVec.ofNat 64 (2 ^ j - 1))).toNat = x.toNat / 2 ^ j * 2 ^ j := by
  have e : x &&& ~~~(BitVec.ofNat 64 (2 ^ j - 1)) = (x >>> j) <<< j := by
    apply BitVec.eq_of_getLsbD_eq
    intro i hi
    simp only [BitVec.getLsbD_and, BitVec.getLsbD_not, hi, decide_true, Bool.true_and, BitVec.getLsbD_ofNat, Nat.testBit_two_pow_sub_one, BitVec.getLsbD_shiftLeft, BitVec.getLsbD_ushiftRight]
    by_cases h : i < j
    · simp [h]
    · simp [h]
      rw [show j + (i - j) = i by omega]
  rw [e, BitVec.toNat_shiftLeft, BitVec.toNat_ushiftRight, Nat.shiftRight_eq_div_pow, Nat.shiftLeft_eq, Nat.mod_eq_of_lt]
  exact Nat.lt_of_le_of_lt (Nat.div_mul_le_self _ _) x.isLt

theorem wrap64_zero {n : Nat} (h : n < 18446744073709551616) : IntKind.i64.wrap n = 0 ↔ n = 0 := by
  rw [IntKind.wrap_i64]; omega

theorem andNot_lit (m : Int) (hm : -9223372036854775808 ≤ m ∧ m ≤ 9223372036854775807) (j : Nat) (hj : j ≤ 62) : bitsOf .andNot .i64 m ((2 ^ j - 1 : Nat) : Int) = 0 ↔ 0 ≤ m ∧ m < (2 ^ j : Nat) := by
  have hb : bitsOf .andNot .i64 m ((2 ^ j - 1 : Nat) : Int) = IntKind.i64.wrap ((BitVec.ofInt 64 m &&& ~~~(BitVec.ofNat 64 (2 ^ j - 1))).toNat : Nat) := by
    simp only [bitsOf]
    congr 2
  have hp : (2 : Nat) ^ j ≤ 2 ^ 62 := Nat.pow_le_pow_right (by decide) hj
  have hp0 : 0 < (2 : Nat) ^ j := Nat.pow_pos (by decide)
  have hx : (BitVec.ofInt 64 m).toNat = (m % 18446744073709551616).toNat := by simp [BitVec.toNat_ofInt]
  rw [hb, wrap64_zero (BitVec.isLt _), bv_clear _ _, hx]
  generalize (2 : Nat) ^ j = q at *
  have e : (m % 18446744073709551616).toNat / q * q = 0 ↔ (m % 18446744073709551616).toNat < q := by
    rw [Nat.mul_eq_zero, Nat.div_eq_zero_iff]
    omega
  rw [e]
  omega
theorem andNot255 (m : Int) (hm : -9223372036854775808 ≤ m ∧ m ≤ 9223372036854775807) : bitsOf .andNot .i64 m 255 = 0 ↔ 0 ≤ m ∧ m ≤ 255 := by
  have := andNot_lit m hm 8 (by decide)
  simp at this
  rw [this]; omega
theorem andNot7 (m : Int) (hm : -9223372036854775808 ≤ m ∧ m ≤ 9223372036854775807) : bitsOf .andNot .i64 m 7 = 0 ↔ 0 ≤ m ∧ m ≤ 7 := by
  have := andNot_lit m hm 3 (by decide)
  simp at this
  rw [this]; omega

/-- One bit of a number that is not negative. -/
theorem bit_shift {m k : Int} (hk : 0 ≤ k ∧ k ≤ 62) : m.fdiv (2 ^ (min k.toNat 64)) = m / 2 ^ k.toNat := by
  rw [show min k.toNat 64 = k.toNat by omega, Int.fdiv_eq_ediv_of_nonneg _ (Int.le_of_lt (Int.pow_pos (by decide)))]
theorem and1 {m : Int} (hm : 0 ≤ m ∧ m ≤ 9223372036854775807) : bitsOf .and .i64 m 1 = m % 2 := by
  obtain ⟨n, rfl⟩ := Int.eq_ofNat_of_zero_le hm.1
  have e : (BitVec.ofInt 64 (n : Int) &&& BitVec.ofInt 64 1).toNat = n % 2 := by
    have : n < 18446744073709551616 := by omega
    simp [BitVec.toNat_and, Nat.and_one_is_mod]
  have h : bitsOf .and .i64 (n : Int) 1 = IntKind.i64.wrap ((BitVec.ofInt 64 (n : Int) &&& BitVec.ofInt 64 1).toNat : Int) := rfl
  rw [h, e]
  exact IntWalk.i64_in _ (by omega)
end Go.Eng
