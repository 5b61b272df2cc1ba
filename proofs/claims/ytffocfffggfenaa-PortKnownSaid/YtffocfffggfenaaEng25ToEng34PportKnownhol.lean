/-
  The texts Eng25 to Eng34, one after the other.
-/
import Derived.Test.YtffocfffggfenaaEng12ToEng24PportKnownhol
/-
  The engine, part 25: a region whose operations may come up in any order, all at once: each has one value whatever the order, its stores come up one after the other.
-/
namespace Go.Eng
open Go
def isStore (o : Oper) : Bool := match o.op with | .store .. => true | .alloc .. => true | .box .. => true | .buildSlice .. => true | _ => false
def waitsFor (o : Oper) (j : Nat) : Bool := o.after.any fun e => Region.binds .any e && e.on == j
def dstAt (ops : Array Oper) (j : Nat) : Option Tmp := (ops[j]?).bind (·.dst)
def allB (ops : Array Oper) (k : Nat) : Bool :=
  Region.noSelect ops && decide (k ≤ ops.size) && (List.range' k (ops.size - k)).all fun i => match ops[i]? with
    | none => false
    | some o => o.guard.isNone && o.after.all (fun e => !Region.binds .any e || decide (e.on < i)) &&
      (o.looksAt ops).all (fun t => (List.range' k (ops.size - k)).all fun j => dstAt ops j != some t || waitsFor o j) &&
      (match o.dst with | some d => (List.range' k (ops.size - k)).all fun j => j == i || dstAt ops j != some d | none => true) &&
      (!isStore o || (List.range' k (i - k)).all fun j => !(match ops[j]? with | some o' => isStore o' | none => false) || waitsFor o j)
structure AllB (ops : Array Oper) (k : Nat) : Prop where
  sel : ∀ (j : Nat) (o : Oper) cs b, ops[j]? = some o → o.op ≠ .select cs b
  le : k ≤ ops.size
  guard : ∀ i o, k ≤ i → ops[i]? = some o → o.guard = none
  after : ∀ i o, k ≤ i → ops[i]? = some o → ∀ e ∈ o.after, Region.binds .any e = true → e.on < i
  looks : ∀ i o, k ≤ i → ops[i]? = some o → ∀ t ∈ o.looksAt ops, ∀ j, k ≤ j → dstAt ops j = some t → waitsFor o j = true
  dst : ∀ i o d, k ≤ i → ops[i]? = some o → o.dst = some d → ∀ j, k ≤ j → dstAt ops j = some d → j = i
  str : ∀ i o, k ≤ i → ops[i]? = some o → isStore o = true → ∀ j o', k ≤ j → j < i → ops[j]? = some o' → isStore o' = true → waitsFor o j = true
theorem allB_spec {ops : Array Oper} {k : Nat} (h : allB ops k = true) : AllB ops k := by
  unfold allB at h
  simp only [Bool.and_eq_true, decide_eq_true_eq] at h
  obtain ⟨⟨h1, h2⟩, h3⟩ := h
  have key : ∀ i o, k ≤ i → ops[i]? = some o → o.guard.isNone = true ∧ o.after.all (fun e => !Region.binds .any e || decide (e.on < i)) = true ∧
      (o.looksAt ops).all (fun t => (List.range' k (ops.size - k)).all fun j => dstAt ops j != some t || waitsFor o j) = true ∧
      (match o.dst with | some d => (List.range' k (ops.size - k)).all fun j => j == i || dstAt ops j != some d | none => true) = true ∧
      (!isStore o || (List.range' k (i - k)).all fun j => !(match ops[j]? with | some o' => isStore o' | none => false) || waitsFor o j) = true := by
    intro i o hi ho
    have hlt := (Array.getElem?_eq_some_iff.1 ho).1
    have := List.all_eq_true.1 h3 i (by rw [List.mem_range'_1]; omega)
    simp only [ho, Bool.and_eq_true] at this
    obtain ⟨⟨⟨⟨a, b⟩, c⟩, d⟩, e⟩ := this
    exact ⟨a, b, c, d, e⟩
  have hin : ∀ j t, k ≤ j → dstAt ops j = some t → j ∈ List.range' k (ops.size - k) := by
    intro j t hj hd
    rw [List.mem_range'_1]
    have : j < ops.size := by
      rcases Nat.lt_or_ge j ops.size with h | h
      · exact h
      · simp [dstAt, Array.getElem?_eq_none h] at hd
    omega
  refine ⟨Region.noSelect_spec h1, h2, fun i o hi ho => ?_, fun i o hi ho e he hb => ?_, fun i o hi ho t ht j hj hd => ?_, fun i o d hi ho hd j hj hdj => ?_, fun i o hi ho hs j o' hj hji ho' hs' => ?_⟩
  · simpa using (key i o hi ho).1
  · have := Array.all_eq_true_iff_forall_mem.1 (key i o hi ho).2.1 e he
    simpa [hb] using this
  · have := List.all_eq_true.1 (List.all_eq_true.1 (key i o hi ho).2.2.1 t ht) j (hin j t hj hd)
    simpa [hd] using this
  · have := (key i o hi ho).2.2.2.1
    simp only [hd] at this
    have := List.all_eq_true.1 this j (hin j d hj hdj)
    simpa [hdj] using this
  · have := (key i o hi ho).2.2.2.2
    rw [hs] at this
    simp only [Bool.not_true, Bool.false_or] at this
    have := List.all_eq_true.1 this j (by rw [List.mem_range'_1]; omega)
    simpa [ho', hs'] using this
section
variable {c : Cx} {ops : Array Oper} {F F2 : Know} {own' : Own} {k : Nat}
def StepOk (c : Cx) (ops : Array Oper) (F F2 : Know) (own' : Own) (cl : Bool) (envs : Nat → Env) (owns : Nat → Own) (szs : Nat → Nat) (vals : Nat → Value) (i : Nat) : Prop :=
  ∃ o, ops[i]? = some o ∧ ((isStore o = false ∧ o.dst.all (fun d => Nat.blt d c.n) = true ∧ (Det c F2 own' (envs i) o (vals i) ∧ (cl = true → plainOp o.op = true)) ∧ envs (i + 1) = putEnv (envs i) o.dst (vals i) ∧ owns (i + 1) = owns i ∧ szs (i + 1) = szs i) ∨
    (isStore o = true ∧ o.dst.all (fun d => Nat.blt d c.n) = true ∧ (∀ cc, o.op ≠ .defer cc) ∧ envs (i + 1) = putEnv (envs i) o.dst (vals i) ∧ ∀ a w, EnvOk c.n c.df (envs i) a → Sat c F (owns i) w → (cl = true → w.heap.size = szs i) → ∃ nx w', (execOp a.eval o).run c.P w = .ok nx w' ∧ (nx = .value (vals i) ∨ (nx = .skip ∧ vals i = undef)) ∧ Sat c F (owns (i + 1)) w' ∧ (cl = true → w'.heap.size = szs (i + 1))))
structure Agree (c : Cx) (ops : Array Oper) (k : Nat) (vals : Nat → Value) (a0 : Act) (listed : Array Bool) (a : Act) : Prop where
  size : a.tmps.size = c.n
  df : a.defers = c.df
  yes : ∀ j t, k ≤ j → dstAt ops j = some t → listed.getD j true = true → a.tmps.getD t undef = vals j
  no : ∀ t, (∀ j, k ≤ j → dstAt ops j = some t → listed.getD j true = false) → a.tmps.getD t undef = a0.tmps.getD t undef
theorem put_getD {a : Act} {d t : Nat} {v : Value} (hd : d < a.tmps.size) : (a.put (some d) v).tmps.getD t undef = if d = t then v else a.tmps.getD t undef := by
  simp only [Act.put]
  by_cases h : d = t
  · subst h; simp [hd]
  · rw [if_neg h]; simp [Array.getElem?_setIfInBounds_ne h]
theorem dst_lt {ops : Array Oper} {j : Nat} {t : Tmp} (h : dstAt ops j = some t) : j < ops.size := by
  rcases Nat.lt_or_ge j ops.size with h' | h'
  · exact h'
  · simp [dstAt, Array.getElem?_eq_none h'] at h
def actAt (ops : Array Oper) (k : Nat) (vals : Nat → Value) (a0 : Act) : Nat → Act
  | 0 => a0
  | m + 1 => (actAt ops k vals a0 m).put (dstAt ops (k + m)) (vals (k + m))
theorem actAt_env {cl : Bool} {envs : Nat → Env} {owns : Nat → Own} {szs : Nat → Nat} {vals : Nat → Value} {a0 : Act} (h0 : EnvOk c.n c.df (envs k) a0) (hs : ∀ i, k ≤ i → i < ops.size → StepOk c ops F F2 own' cl envs owns szs vals i) : ∀ m, k + m ≤ ops.size → EnvOk c.n c.df (envs (k + m)) (actAt ops k vals a0 m)
  | 0, _ => h0
  | m + 1, hm => by
    have ih := actAt_env h0 hs m (by omega)
    obtain ⟨o, ho, hor⟩ := hs (k + m) (by omega) (by omega)
    have hd : dstAt ops (k + m) = o.dst := by simp [dstAt, ho]
    rcases hor with ⟨_, h2, _, h4, _⟩ | ⟨_, h2, _, h4, _⟩ <;>
    · show EnvOk c.n c.df (envs (k + (m + 1))) ((actAt ops k vals a0 m).put (dstAt ops (k + m)) (vals (k + m)))
      rw [show k + (m + 1) = k + m + 1 by omega, h4, hd]
      exact ih.put' h2 _
theorem actAt_get (hB : AllB ops k) {cl : Bool} {envs : Nat → Env} {owns : Nat → Own} {szs : Nat → Nat} {vals : Nat → Value} {a0 : Act} (h0 : EnvOk c.n c.df (envs k) a0) (hs : ∀ i, k ≤ i → i < ops.size → StepOk c ops F F2 own' cl envs owns szs vals i) (t : Tmp) : ∀ m, k + m ≤ ops.size →
    (∀ j, k ≤ j → j < k + m → dstAt ops j = some t → (actAt ops k vals a0 m).tmps.getD t undef = vals j) ∧ ((∀ j, k ≤ j → j < k + m → dstAt ops j ≠ some t) → (actAt ops k vals a0 m).tmps.getD t undef = a0.tmps.getD t undef)
  | 0, _ => ⟨fun j h1 h2 => by omega, fun _ => rfl⟩
  | m + 1, hm => by
    obtain ⟨ih1, ih2⟩ := actAt_get hB h0 hs t m (by omega)
    have he := actAt_env h0 hs m (by omega)
    obtain ⟨o, ho, hor⟩ := hs (k + m) (by omega) (by omega)
    have hdd : ∀ d, dstAt ops (k + m) = some d → d < c.n := by
      intro d hd
      have hd' : o.dst = some d := by rw [← hd]; simp [dstAt, ho]
      rcases hor with ⟨_, h2, _⟩ | ⟨_, h2, _⟩ <;>
      · rw [hd'] at h2; simpa [Nat.blt_eq] using h2
    show (∀ j, k ≤ j → j < k + (m + 1) → dstAt ops j = some t → ((actAt ops k vals a0 m).put (dstAt ops (k + m)) (vals (k + m))).tmps.getD t undef = vals j) ∧ ((∀ j, k ≤ j → j < k + (m + 1) → dstAt ops j ≠ some t) → ((actAt ops k vals a0 m).put (dstAt ops (k + m)) (vals (k + m))).tmps.getD t undef = a0.tmps.getD t undef)
    cases hd : dstAt ops (k + m) with
    | none =>
      refine ⟨fun j h1 h2 h3 => ?_, fun h => ih2 fun j h1 h2 => h j h1 (by omega)⟩
      by_cases e : j = k + m
      · subst e; rw [hd] at h3; cases h3
      · exact ih1 j h1 (by omega) h3
    | some d =>
      have hlt := hdd d hd
      rw [put_getD (by rw [he.size]; exact hlt)]
      refine ⟨fun j h1 h2 h3 => ?_, fun h => ?_⟩
      · by_cases e : d = t
        · subst e
          have hod : o.dst = some d := by rw [← hd]; simp [dstAt, ho]
          have := hB.dst (k + m) o d (by omega) ho hod j h1 h3
          rw [if_pos rfl, this]
        · rw [if_neg e]
          have : j ≠ k + m := fun e2 => by rw [e2, hd] at h3; injection h3 with h3; exact e h3
          exact ih1 j h1 (by omega) h3
      · have : d ≠ t := fun e => h (k + m) (by omega) (by omega) (by rw [hd, e])
        rw [if_neg this]
        exact ih2 fun j h1 h2 => h j h1 (by omega)
theorem ready_waits {listed : Array Bool} {i j : Nat} {o : Oper} (hr : i ∈ Region.ready .any ops listed) (ho : ops[i]? = some o) (hw : waitsFor o j = true) : listed.getD j false = true := by
  obtain ⟨_, o', ho', hall⟩ := mem_ready.1 hr
  rw [ho] at ho'; cases ho'
  obtain ⟨e, he, hb⟩ := Array.any_eq_true'.1 hw
  simp only [Bool.and_eq_true, beq_iff_eq] at hb
  rw [← hb.2]; exact hall e he hb.1
theorem getD_tf {listed : Array Bool} {j : Nat} (h : listed.getD j false = true) : listed.getD j true = true := by
  rcases Nat.lt_or_ge j listed.size with h' | h'
  · simp [h'] at h ⊢; exact h
  · simp [Array.getElem?_eq_none h'] at h
def StoresAt (ops : Array Oper) (k : Nat) (listed : Array Bool) (q : Nat) : Prop := ∀ j o, k ≤ j → ops[j]? = some o → isStore o = true → (listed.getD j true = true ↔ j < q)
theorem owns_eq {cl : Bool} {envs : Nat → Env} {owns : Nat → Own} {szs : Nat → Nat} {vals : Nat → Value} (hs : ∀ i, k ≤ i → i < ops.size → StepOk c ops F F2 own' cl envs owns szs vals i) {p : Nat} (hp : k ≤ p) : ∀ m, p + m ≤ ops.size → (∀ j o, p ≤ j → j < p + m → ops[j]? = some o → isStore o = false) → owns (p + m) = owns p ∧ szs (p + m) = szs p
  | 0, _, _ => ⟨rfl, rfl⟩
  | m + 1, hm, hn => by
    have ih := owns_eq hs hp m (by omega) fun j o h1 h2 => hn j o h1 (by omega)
    obtain ⟨o, ho, hor⟩ := hs (p + m) (by omega) (by omega)
    have hno := hn (p + m) o (by omega) (by omega) ho
    rcases hor with ⟨_, _, _, _, h5, h6⟩ | ⟨h1, _⟩
    · rw [show p + (m + 1) = p + m + 1 by omega, h5, h6]; exact ih
    · rw [hno] at h1; cases h1
theorem all_run {Q : Exit → Act → World → Prop} (hB : AllB ops k) {cl : Bool} {envs : Nat → Env} {owns : Nat → Own} {szs : Nat → Nat} {vals : Nat → Value} {a0 : Act} (h0 : EnvOk c.n c.df (envs k) a0) (hs : ∀ i, k ≤ i → i < ops.size → StepOk c ops F F2 own' cl envs owns szs vals i)
    (hK : ∀ i, k ≤ i → i ≤ ops.size → ∀ w, Sat c F (owns i) w → Sat c F2 own' w) (hQ : TK c (envs ops.size) F (owns ops.size) (Q .normal)) :
    ∀ (fuel : Nat) (listed : Array Bool) (a : Act) (w : World) (q : Nat), listed.size = ops.size → (∀ j, j < k → listed.getD j true = true) → (∀ l : List Nat, l.Nodup → (∀ j ∈ l, listed.getD j true = false) → l.length ≤ fuel) → (∃ l : List Nat, l.Nodup ∧ (∀ j, j ∈ l ↔ listed.getD j true = false) ∧ l.length = fuel) →
      Agree c ops k vals a0 listed a → k ≤ q → q ≤ ops.size → StoresAt ops k listed q → Sat c F (owns q) w → (cl = true → w.heap.size = szs q) → wpAnyIn (FR c.ro) 0 c.P .any ops Q fuel listed a w := by
  intro fuel
  induction fuel with
  | zero =>
    intro listed a w q hsz hlow hfew _ hag hkq hqn hst hsat _
    have hall : ∀ j, listed.getD j true = true := fun j => by
      cases h : listed.getD j true with
      | true => rfl
      | false => have := hfew [j] (by simp) (by simpa using h); simp at this
    refine ⟨List.eq_nil_iff_forall_not_mem.2 fun i hi => ?_, ?_⟩
    · have := (mem_ready.1 hi).1; rw [hall] at this; cases this
    · have hqq : owns ops.size = owns q := by
        have := And.left <| owns_eq hs hkq (ops.size - q) (by omega) fun j o h1 h2 ho => by
          cases h : isStore o with
          | false => rfl
          | true => have := (hst j o (by omega) ho h).1 (hall j); omega
        rwa [show q + (ops.size - q) = ops.size by omega] at this
      refine hQ a w ⟨⟨hag.size, hag.df, fun t v hv => ?_⟩, by rw [hqq]; exact hsat⟩
      have hm : k + (ops.size - k) = ops.size := by have := hB.le; omega
      have he := actAt_env h0 hs (ops.size - k) (by omega)
      have hg := actAt_get hB h0 hs t (ops.size - k) (by omega)
      rw [hm] at he hg
      have := he.get t v hv
      rw [← this]
      by_cases hex : ∃ j, k ≤ j ∧ dstAt ops j = some t
      · obtain ⟨j, h1, h2⟩ := hex
        rw [hag.yes j t h1 h2 (hall j), hg.1 j h1 (dst_lt h2) h2]
      · rw [hag.no t fun j h1 h2 => absurd ⟨j, h1, h2⟩ hex, hg.2 fun j h1 _ h2 => hex ⟨j, h1, h2⟩]
  | succ fuel ih =>
    intro listed a w q hsz hlow hfew hsome hag hkq hqn hst hsat hsize
    refine ⟨fun hnil => ?_, fun i hi => ?_⟩
    · -- the first that has not come up is ready
      exfalso
      obtain ⟨l, h1, h2, h3⟩ := hsome
      obtain ⟨j, hj⟩ : ∃ j, j ∈ l := by
        cases l with
        | nil => simp at h3
        | cons x r => exact ⟨x, List.mem_cons_self⟩
      have hex : ∃ j, listed.getD j true = false := ⟨j, (h2 j).1 hj⟩
      have hmin : ∃ m, listed.getD m true = false ∧ ∀ j, j < m → listed.getD j true = true := by
        obtain ⟨j, hj⟩ := hex
        induction j using Nat.strongRecOn with
        | _ j ihj =>
          by_cases h : ∀ i, i < j → listed.getD i true = true
          · exact ⟨j, hj, h⟩
          · simp only [Classical.not_forall] at h
            obtain ⟨i, hi, hn⟩ := h
            exact ihj i hi (by simpa using hn)
      obtain ⟨m, hm1, hm2⟩ := hmin
      have hmk : k ≤ m := by
        rcases Nat.lt_or_ge m k with h | h
        · rw [hlow m h] at hm1; cases hm1
        · exact h
      have hmn : m < ops.size := by
        rcases Nat.lt_or_ge m listed.size with h | h
        · omega
        · simp [Array.getElem?_eq_none h] at hm1
      have hr : m ∈ Region.ready .any ops listed := mem_ready.2 ⟨hm1, ops[m], Array.getElem?_eq_getElem hmn, fun e he hb => by
        have h4 := hB.after m ops[m] hmk (Array.getElem?_eq_getElem hmn) e he hb
        have h5 := hm2 e.on h4
        have : e.on < listed.size := by omega
        simp [this] at h5 ⊢; exact h5⟩
      rw [hnil] at hr; cases hr
    · have hr := hi
      obtain ⟨hun, o, ho, _⟩ := mem_ready.1 hi
      have hin : i < ops.size := (Array.getElem?_eq_some_iff.1 ho).1
      have hki : k ≤ i := by
        rcases Nat.lt_or_ge i k with h | h
        · rw [hlow i h] at hun; cases hun
        · exact h
      obtain ⟨o', ho', hor⟩ := hs i hki hin
      rw [ho] at ho'; cases ho'
      have hgn := hB.guard i o hki ho
      -- the operation does what it would do in its place
      have hop : execOp a.eval o = execOp (actAt ops k vals a0 (i - k)).eval o := by
        refine execOp_congr o (hB.sel i o · · ho) fun x hx => ?_
        cases x with
        | tmp t =>
          have hg := actAt_get hB h0 hs t (i - k) (by omega)
          rw [show k + (i - k) = i by omega] at hg
          have hl : t ∈ o.looksAt ops := List.mem_append_left _ (List.mem_filterMap.2 ⟨.tmp t, by simpa using hx, rfl⟩)
          show a.tmps.getD t undef = (actAt ops k vals a0 (i - k)).tmps.getD t undef
          by_cases hex : ∃ j, k ≤ j ∧ dstAt ops j = some t
          · obtain ⟨j, h1, h2⟩ := hex
            have hw := hB.looks i o hki ho t hl j h1 h2
            have hlj := getD_tf (ready_waits hr ho hw)
            have hji : j < i := by
              obtain ⟨e, he, hb⟩ := Array.any_eq_true'.1 hw
              simp only [Bool.and_eq_true, beq_iff_eq] at hb
              have := hB.after i o hki ho e he hb.1
              omega
            rw [hag.yes j t h1 h2 hlj, hg.1 j h1 hji h2]
          · rw [hag.no t fun j h1 h2 => absurd ⟨j, h1, h2⟩ hex, hg.2 fun j h1 _ h2 => hex ⟨j, h1, h2⟩]
        | const v => rfl
        | global g => rfl
        | func f => rfl
      have he := actAt_env h0 hs (i - k) (by omega)
      rw [show k + (i - k) = i by omega] at he
      have hsz' : (listed.setIfInBounds i true).size = ops.size := by simp [hsz]
      have hlow' : ∀ j, j < k → (listed.setIfInBounds i true).getD j true = true := fun j hj => by
        rw [getD_set_ne true (by omega)]; exact hlow j hj
      have hge : ∀ j, (listed.setIfInBounds i true).getD j true = false → j ≠ i ∧ listed.getD j true = false := fun j hj => by
        have hne : j ≠ i := fun e => by subst e; rw [getD_set_self] at hj; cases hj
        exact ⟨hne, by rwa [getD_set_ne true (Ne.symm hne)] at hj⟩
      have hfew' : ∀ l : List Nat, l.Nodup → (∀ j ∈ l, (listed.setIfInBounds i true).getD j true = false) → l.length ≤ fuel := by
        intro l hn ha
        have := hfew (i :: l) (List.nodup_cons.2 ⟨fun hm => (hge i (ha i hm)).1 rfl, hn⟩) fun x hx => by
          rcases List.mem_cons.1 hx with rfl | hx
          · exact hun
          · exact (hge x (ha x hx)).2
        simpa using this
      have hsome' : ∃ l : List Nat, l.Nodup ∧ (∀ j, j ∈ l ↔ (listed.setIfInBounds i true).getD j true = false) ∧ l.length = fuel := by
        obtain ⟨l, h1, h2, h3⟩ := hsome
        refine ⟨l.erase i, h1.erase i, fun j => ?_, by rw [List.length_erase_of_mem ((h2 i).2 hun), h3]; rfl⟩
        rw [h1.mem_erase_iff, h2]
        constructor
        · rintro ⟨a, b⟩; rw [getD_set_ne true (Ne.symm a)]; exact b
        · exact hge j
      have hag' : Agree c ops k vals a0 (listed.setIfInBounds i true) (a.put o.dst (vals i)) := by
        have hdi : dstAt ops i = o.dst := by simp [dstAt, ho]
        cases hd : o.dst with
        | none =>
          refine ⟨hag.size, hag.df, fun j t h1 h2 h3 => hag.yes j t h1 h2 ?_, fun t h => hag.no t fun j h1 h2 => (hge j (h j h1 h2)).2⟩
          have : j ≠ i := fun e => by subst e; rw [hdi, hd] at h2; cases h2
          rwa [getD_set_ne true (Ne.symm this)] at h3
        | some d =>
          have hdn : d < c.n := by
            rcases hor with ⟨_, h2, _⟩ | ⟨_, h2, _⟩ <;>
            · rw [hd] at h2; simpa [Nat.blt_eq] using h2
          refine ⟨by simp [Act.put, hag.size], by simp [Act.put, hag.df], fun j t h1 h2 h3 => ?_, fun t h => ?_⟩
          · rw [put_getD (by rw [hag.size]; exact hdn)]
            by_cases e : d = t
            · subst e
              rw [if_pos rfl, hB.dst i o d hki ho hd j h1 h2]
            · rw [if_neg e]
              have : j ≠ i := fun e2 => by subst e2; rw [hdi, hd] at h2; injection h2 with h2; exact e h2
              rw [getD_set_ne true (Ne.symm this)] at h3
              exact hag.yes j t h1 h2 h3
          · rw [put_getD (by rw [hag.size]; exact hdn)]
            have : d ≠ t := fun e => by
              have := h i hki (by rw [hdi, hd, e])
              rw [getD_set_self] at this; cases this
            rw [if_neg this]
            exact hag.no t fun j h1 h2 => (hge j (h j h1 h2)).2
      unfold wpOpIn
      simp only [ho]
      rw [show Region.wanted o (yielded ops a.tmps) = true by unfold Region.wanted; rw [hgn]]
      simp only [if_true]
      rcases hor with ⟨hns, hdl, ⟨hD, hpl⟩, _, _⟩ | ⟨hsto, hdl, hnc, _, hSt⟩
      · have hd2 := hD _ he w (hK q hkq hqn w hsat)
        rw [← hop] at hd2
        have hsame : ∀ w', (∃ nx, (execOp a.eval o).run c.P w = .ok nx w') → cl = true → w' = w := by
          rintro w' ⟨nx, hrun⟩ hcl
          obtain ⟨v', rfl⟩ := plain_value (hpl hcl) hrun
          rw [hrun] at hd2
          exact hd2.1
        have hst' : StoresAt ops k (listed.setIfInBounds i true) q := fun j oj h1 h2 h3 => by
          have : j ≠ i := fun e => by subst e; rw [ho] at h2; cases h2; rw [hns] at h3; cases h3
          rw [getD_set_ne true (Ne.symm this)]
          exact hst j oj h1 h2 h3
        cases hcl : cl with
        | false =>
          refine upon_det hd2 fun w' hkp => ?_
          exact ih _ _ _ q hsz' hlow' hfew' hsome' hag' hkq hqn hst' (hsat.keep' hkp) (fun h => by rw [hcl] at h; cases h)
        | true =>
          refine ⟨fun _ _ => trivial, ?_⟩
          rw [semAt_run hd2.not]
          generalize hres : (execOp a.eval o).run c.P w = res at *
          cases res with
          | halt x w' => simp only [detUpon] at hd2
          | ok nx w' =>
            obtain ⟨v', rfl⟩ := plain_value (hpl hcl) hres
            obtain ⟨rfl, rfl⟩ := hd2
            simp only [Oper.uponIn]
            exact ih _ _ _ q hsz' hlow' hfew' hsome' hag' hkq hqn hst' hsat hsize
      · -- a store: those ahead of it are done, the others are not
        have hpre : ∀ j oj, k ≤ j → j < i → ops[j]? = some oj → isStore oj = true → listed.getD j true = true := fun j oj h1 h2 h3 h4 => getD_tf (ready_waits hr ho (hB.str i o hki ho hsto j oj h1 h2 h3 h4))
        have hqi : ¬ i < q := fun h => by have := (hst i o hki ho hsto).2 h; rw [hun] at this; cases this
        have howq : owns i = owns q ∧ szs i = szs q := by
          have := owns_eq hs hkq (i - q) (by omega) fun j oj h1 h2 h3 => by
            cases h : isStore oj with
            | false => rfl
            | true => have := (hst j oj (by omega) h3 h).1 (hpre j oj (by omega) (by omega) h3 h); omega
          rwa [show q + (i - q) = i by omega] at this
        obtain ⟨nx, w', hrun, hnx, hs', hsz2⟩ := hSt _ w he (by rw [howq.1]; exact hsat) (fun h => by rw [howq.2]; exact hsize h)
        rw [← hop] at hrun
        refine ⟨fun _ _ => trivial, ?_⟩
        rw [Oper.semAt_eq _ _ _ hnc, hrun]
        have hst' : StoresAt ops k (listed.setIfInBounds i true) (i + 1) := fun j oj h1 h2 h3 => by
          by_cases e : j = i
          · subst e; rw [getD_set_self]; simp
          · rw [getD_set_ne true (Ne.symm e)]
            rcases Nat.lt_or_ge j i with hlt | hge2
            · rw [hpre j oj h1 hlt h2 h3]; simp; omega
            · have hji : i < j := by omega
              have : ¬ listed.getD j true = true := fun h => by
                have := (hst j oj h1 h2 h3).1 h
                omega
              simp only [this]; simp; omega
        have hgo := ih _ _ w' (i + 1) hsz' hlow' hfew' hsome' hag' (by omega) (by omega) hst' hs' hsz2
        rcases hnx with rfl | ⟨rfl, hu⟩
        · simp only [Oper.uponIn]; exact hgo
        · simp only [Oper.uponIn]
          rw [hu] at hgo; exact hgo
def AL (c : Cx) (l : List Oper) (F F2 : Know) (own' : Own) (cl : Bool) (Q : Exit → Act → World → Prop) (i : Nat) (env : Env) (own : Own) (s : Nat) : Prop :=
  ∃ (envs : Nat → Env) (owns : Nat → Own) (szs : Nat → Nat) (vals : Nat → Value), envs i = env ∧ owns i = own ∧ szs i = s ∧ (∀ j, i ≤ j → j < l.length → StepOk c l.toArray F F2 own' cl envs owns szs vals j) ∧
    (∀ j, i ≤ j → j ≤ l.length → ∀ w, Sat c F (owns j) w → Sat c F2 own' w) ∧ TK c (envs l.length) F (owns l.length) (Q .normal)
section
variable {env : Env} {own : Own} {cl : Bool} {s : Nat} {Q : Exit → Act → World → Prop} {l : List Oper} {i : Nat}
theorem lk_false {n k j : Nat} (h : (lk n k).getD j true = false) : j < n ∧ k ≤ j := by
  rcases Nat.lt_or_ge j n with hj | hj
  · rw [lk_get true hj] at h; simp at h; omega
  · have : (lk n k).size ≤ j := by rw [lk_size]; exact hj
    simp [Array.getElem?_eq_none this] at h
theorem r_allS (cl : Bool) (hB : allB l.toArray k = true) (hK : ∀ w, Sat c F own w → Sat c F2 own' w ∧ Incl F F2) (h : Incl F F2 → ∀ s, AL c l F F2 own' cl Q k env own s) : R c true l.toArray Q k env F own := by
  intro a w hd
  obtain ⟨envs, owns, szs, vals, h1, h2, h2b, h3, h4, h5⟩ := h (hK w hd.sat).2 w.heap.size
  have hA := allB_spec hB
  have hle : k ≤ l.length := by simpa using hA.le
  simp only [RestOf]
  refine all_run (a0 := a) hA (cl := cl) (envs := envs) (owns := owns) (szs := szs) (vals := vals) (by rw [h1]; exact hd.env) (by simpa using h3) (by simpa using h4) (by simpa using h5) _ _ a w k (lk_size _ _) (fun j hj => ?_) ?_ ?_ ⟨hd.env.size, hd.env.defers, fun j t h1 h2 h3 => ?_, fun _ _ => rfl⟩ (Nat.le_refl _) (by simpa using hle) (fun j o h1 h2 h3 => ?_) (by rw [h2]; exact hd.sat) (fun _ => h2b.symm)
  · rw [lk_get true (by simp; omega)]; simp; exact hj
  · intro m hn hm
    exact few_lk (n := l.toArray.size) (by simp) m hn fun j hj => ⟨(lk_false (hm j hj)).1, hm j hj⟩
  · refine ⟨List.range' k (l.toArray.size - k), List.nodup_range', fun j => ?_, by simp⟩
    rw [List.mem_range'_1]
    constructor
    · intro hj
      rw [lk_get true (by omega)]
      simp; omega
    · intro hj
      have := lk_false hj
      omega
  · have := dst_lt h2
    rw [lk_get true this] at h3
    simp at h3; omega
  · have hj := (Array.getElem?_eq_some_iff.1 h2).1
    rw [lk_get true hj]
    simp
theorem al_step {o : Oper} {v : Value} {env2 : Env} {own2 : Own} {s2 : Nat} (ho : nthO l i = some o)
    (hS : ∀ (envs : Nat → Env) (owns : Nat → Own) (szs : Nat → Nat) (vals : Nat → Value), envs i = env → owns i = own → szs i = s → vals i = v → envs (i + 1) = env2 → owns (i + 1) = own2 → szs (i + 1) = s2 → StepOk c l.toArray F F2 own' cl envs owns szs vals i)
    (hK : ∀ w, Sat c F own w → Sat c F2 own' w) (h : AL c l F F2 own' cl Q (i + 1) env2 own2 s2) : AL c l F F2 own' cl Q i env own s := by
  obtain ⟨envs, owns, szs, vals, h1, h2, h2b, h3, h4, h5⟩ := h
  have hil : i < l.length := by
    have := ho
    rw [nthO_eq] at this
    simpa using (Array.getElem?_eq_some_iff.1 this).1
  refine ⟨fun j => if j ≤ i then env else envs j, fun j => if j ≤ i then own else owns j, fun j => if j ≤ i then s else szs j, fun j => if j ≤ i then v else vals j, if_pos (Nat.le_refl _), if_pos (Nat.le_refl _), if_pos (Nat.le_refl _), fun j hj hjl => ?_, fun j hj hjl w hs => ?_, ?_⟩
  · by_cases e : j = i
    · subst e
      refine hS _ _ _ _ (if_pos (Nat.le_refl _)) (if_pos (Nat.le_refl _)) (if_pos (Nat.le_refl _)) (if_pos (Nat.le_refl _)) ?_ ?_ ?_
      · simp only [show ¬ j + 1 ≤ j by omega, if_false]; exact h1
      · simp only [show ¬ j + 1 ≤ j by omega, if_false]; exact h2
      · simp only [show ¬ j + 1 ≤ j by omega, if_false]; exact h2b
    · obtain ⟨o', k1, k2⟩ := h3 j (by omega) hjl
      refine ⟨o', k1, ?_⟩
      simp only [show ¬ j ≤ i by omega, show ¬ j + 1 ≤ i by omega, if_false]
      exact k2
  · by_cases e : j = i
    · subst e
      simp only [Nat.le_refl, if_true] at hs
      exact hK w hs
    · simp only [show ¬ j ≤ i by omega, if_false] at hs
      exact h4 j (by omega) hjl w hs
  · simp only [show ¬ l.length ≤ i by omega, if_false]
    exact h5
theorem AL.cls (h : AL c l F F2 own' cl Q i env own s) (hi : i ≤ l.length) : ∀ w, Sat c F own w → Sat c F2 own' w := by
  obtain ⟨envs, owns, szs, vals, h1, h2, h2b, h3, h4, h5⟩ := h
  intro w hs
  exact h4 i (Nat.le_refl _) hi w (by rw [h2]; exact hs)
theorem nthO_lt {o : Oper} (ho : nthO l i = some o) : i < l.length := by
  rw [nthO_eq] at ho
  simpa using (Array.getElem?_eq_some_iff.1 ho).1
theorem al_det {o : Oper} {v : Value} {t : Tmp} (ho : nthO l i = some o) (hD : Det c F2 own' env o v) (ht : o.dst = some t) (hd : Nat.blt t c.n = true) (hns : isStore o = false) (h : AL c l F F2 own' false Q (i + 1) ((t, v) :: env) own s) : AL c l F F2 own' false Q i env own s :=
  al_step ho (fun envs owns szs vals e1 e2 e3 e4 e5 e6 e7 => ⟨o, by rw [← nthO_eq]; exact ho, .inl ⟨hns, by rw [ht]; exact hd, ⟨by rw [e1, e4]; exact hD, fun h => by cases h⟩, by rw [e5, e1, e4, ht]; rfl, by rw [e6, e2], by rw [e7, e3]⟩⟩) (h.cls (nthO_lt ho)) h
theorem al_str {o : Oper} {own2 : Own} (ho : nthO l i = some o) (hst : isStore o = true) (hdn : o.dst = none) (hnd : ∀ cc, o.op ≠ .defer cc) (hS : ∀ a w, EnvOk c.n c.df env a → Sat c F own w → ∃ w', (execOp a.eval o).run c.P w = .ok .skip w' ∧ Sat c F own2 w' ∧ w'.heap.size = w.heap.size) (hK : ∀ w, Sat c F own w → Sat c F2 own' w) (h : AL c l F F2 own' cl Q (i + 1) env own2 s) : AL c l F F2 own' cl Q i env own s :=
  al_step (v := undef) ho (fun envs owns szs vals e1 e2 e3 e4 e5 e6 e7 => ⟨o, by rw [← nthO_eq]; exact ho, .inr ⟨hst, by rw [hdn]; rfl, hnd, by rw [e5, e1, hdn]; rfl, fun a w he hs hz => by
    obtain ⟨w', k1, k2, k3⟩ := hS a w (by rw [← e1]; exact he) (by rw [← e2]; exact hs)
    exact ⟨.skip, w', k1, .inr ⟨rfl, e4⟩, by rw [e6]; exact k2, fun hc => by rw [k3, hz hc, e3, e7]⟩⟩⟩) hK h
theorem al_end (hl : l.length = i) (hK : ∀ w, Sat c F own w → Sat c F2 own' w) (h : TK c env F own (Q .normal)) : AL c l F F2 own' cl Q i env own s := by
  refine ⟨fun _ => env, fun _ => own, fun _ => s, fun _ => undef, rfl, rfl, rfl, fun j h1 h2 => by omega, fun _ _ _ => hK, h⟩
variable {ty : TypeId} {ps : String} {af : Array Edge} {g : Option (Nat × Bool)}
theorem al_stN {t : TypeId} {n : Nat} {x y : Operand} {A : Addr} {p j : Nat} {vs cs cs' : List Value} {T : TypeId} {v : Value} {own2 : Own} (ho : nthO l i = some ⟨none, .store t x y, ty, ps, af, g⟩) (ht : ∀ w : World, (sizeOf t).run c.P w = .ok n w) (hx : Env.ev env x = some (.pointer (some A))) (hA : A = ⟨p, j, none⟩) (hy : Env.ev env y = some v) (hvc : v.cells = vs.toArray)
    (hu : Upd p (.cells cs.toArray T (0, 0)) (.cells cs'.toArray T (0, 0)) own own2) (hs : setV j vs cs some = some cs') (hn : vs.length = n) (hv : vs.all oneCell = true) (hK : ∀ w, Sat c F own w → Sat c F2 own' w) (h : AL c l F F2 own' cl Q (i + 1) env own2 s) : AL c l F F2 own' cl Q i env own s := by
  refine al_str ho rfl rfl (fun cc h => by cases h) (fun a w he hsat => ?_) hK h
  subst hA
  obtain ⟨h1, h2⟩ := setV_some hs
  simp only [Option.some.injEq] at h2
  refine ⟨setBlk w p (.cells cs'.toArray T (0, 0)), ?_, hsat.upd hu, by simp [setBlk]⟩
  have hr := run_storeAt (P := c.P) (w := w) (t := t) (n := n) (k := j) ht hvc hn (hsat.own _ hu.mem) h1 hv
  rw [h2] at hr
  simp only [execOp, he.eval hx, he.eval hy, Sem.run_bind, hr, Result.andThen_ok, Sem.run_pure]
theorem al_st1 {t : TypeId} {x y : Operand} {A : Addr} {p j : Nat} {cs cs' : List Value} {T : TypeId} {v : Value} {own2 : Own} (ho : nthO l i = some ⟨none, .store t x y, ty, ps, af, g⟩) (ht : TOne c.P t) (hx : Env.ev env x = some (.pointer (some A))) (hA : A = ⟨p, j, none⟩) (hy : Env.ev env y = some v)
    (hu : Upd p (.cells cs.toArray T (0, 0)) (.cells cs'.toArray T (0, 0)) own own2) (hs : setV j [v] cs some = some cs') (hv : oneCell v = true) (hK : ∀ w, Sat c F own w → Sat c F2 own' w) (h : AL c l F F2 own' cl Q (i + 1) env own2 s) : AL c l F F2 own' cl Q i env own s :=
  al_stN ho ht.size hx hA hy (by cases v <;> simp [oneCell] at hv <;> rfl) hu hs rfl (by simp [hv]) hK h
theorem outB {cs cs' : List Value} (J N : Nat) (h1 : cs'.take J = cs.take J) (h2 : cs'.drop (J + N) = cs.drop (J + N)) : ∀ k, (k < J ∨ J + N ≤ k) → cs'.toArray[k]? = cs.toArray[k]? := by
  intro k hk
  rw [List.getElem?_toArray, List.getElem?_toArray]
  rcases hk with hk | hk
  · have := congrArg (fun l => l[k]?) h1
    simpa [List.getElem?_take, hk] using this
  · have := congrArg (fun l => l[k - (J + N)]?) h2
    simp only [List.getElem?_drop] at this
    rwa [show J + N + (k - (J + N)) = k by omega] at this
end
end
end Go.Eng

/-
  The engine, part 26: appends to a slice of one's own where an elder value of it is read on; loads from what is known to lie in one's own blocks.
-/
namespace Go.Eng
open Go
section
variable {c : Cx} {env : Env} {F : Know} {own : Own} {Q : Exit → Act → World → Prop}
variable {ty : TypeId} {ps : String} {af : Array Edge} {g : Option (Nat × Bool)} {l : List Oper} {k : Nat} {d : Option Tmp}
def Old (b0 : Own) (A0 : Option Addr) (zs : List Value) (A : Option Addr) (xs : List Value) : Prop := (A0 = A ∧ ∃ r, xs = zs ++ r) ∨ Lies b0 A0 zs
theorem Old.start {e : TypeId} {size n cp : Nat} {A : Option Addr} {xs : List Value} {b : Own} (_hS : SlO e size (.slice A n cp) n xs b) : Old [] A xs A xs := .inl ⟨rfl, [], by simp⟩
theorem tk_outB {K : Act → World → Prop} {pre b post : Own} (h : TK c env F ((pre ++ post) ++ b) K) : TK c env F ((pre ++ b) ++ post) K := by
  refine tk_perm ?_ h
  rw [List.append_assoc, List.append_assoc]
  exact List.perm_append_comm.append_left pre
theorem tk_inB {K : Act → World → Prop} {news pre b post : Own} (h : TK c env F (news ++ ((pre ++ b) ++ post)) K) : TK c env F (((news ++ pre) ++ post) ++ b) K := by
  refine tk_perm ?_ h
  rw [List.append_assoc, List.append_assoc, List.append_assoc]
  exact ((List.perm_append_comm (l₁ := post) (l₂ := b)).append_left pre).append_left news
end
end Go.Eng

/-
  The engine, part 27: an append of nothing to an empty slice.
-/
namespace Go.Eng
open Go
section
variable {c : Cx} {env : Env} {F : Know} {own : Own} {d : Option Tmp} {ty : TypeId} {ps : String} {af : Array Edge} {g : Option (Nat × Bool)}
end
end Go.Eng

/-
  The engine, part 28: calls that write what they were lent and hand back memory that is only read.
-/
namespace Go.Eng
open Go
def CallsM (P : Program) (f : FuncId) (args : List Value) (w : World) (F : Know) (cp : Own) (R : Value → Own → Know → Prop) : Prop :=
  Calls P f args.toArray w fun e w' => ∃ v cp', e = .returned v ∧ idsO cp' = idsO cp ∧ (∀ x ∈ cp', w'.heap[x.1]? = some x.2) ∧ Keep (idsO cp) w w' ∧
    ∀ F' : Know, (∀ a u, F a = some u → F' a = some u) → (∀ a u, w.heap.size ≤ a.block → w'.cell? a = some u → F' a = some u) → R v cp' F'
section
variable {c : Cx} {env : Env} {F : Know} {own : Own} {Q : Exit → Act → World → Prop}
variable {d : Option Tmp} {ty : TypeId} {ps : String} {af : Array Edge} {g : Option (Nat × Bool)} {l : List Oper} {k : Nat} {draw : Bool}
theorem oM {x : Operand} {f : FuncId} {us caps : List Value} {args : List Operand} {ts : Array TypeId} {vs : List Value} {cp rest : Own} {t : Tmp} {Rel : Value → Own → Know → Prop} (hp : own.Perm (cp ++ rest)) (hB : draw = true → aloneB l.toArray k = true)
    (ho : nthO l k = some ⟨some t, .call { callee := .value x, args := args.toArray, argTypes := ts }, ty, ps, af, g⟩) (hb : HasBody c.P f) (hx : Env.ev env x = some (.func (.func f) us.toArray caps.toArray)) (hv : args.mapM (Env.ev env) = some vs)
    (hd : Nat.blt t c.n = true) (hw : wantedB l.toArray env ⟨some t, .call { callee := .value x, args := args.toArray, argTypes := ts }, ty, ps, af, g⟩)
    (h : ∀ w, Sat c F (cp ++ rest) w → CallsM c.P f (us ++ vs ++ caps) w F cp Rel) (hn : ∀ v cp' F', Incl F F' → Fresh c F F' → Rel v cp' F' → idsO cp' = idsO cp → R c draw l.toArray Q (k + 1) ((t, v) :: env) F' (cp' ++ rest)) : R c draw l.toArray Q k env F own := by
  refine tk_perm hp ?_
  refine r_call (by rw [← nthO_eq]; exact ho) hB (by simpa using hd) hw hb hx hv fun w hs => (h w hs).mono fun e w' he => ?_
  obtain ⟨v, cp', h1, h2, h3, h4, h5⟩ := he
  have hl := hs.lent h2 h3 h4
  obtain ⟨g4, g5, g6, g7⟩ := hl.news w.heap.size hs.keep.size
  have hids : (cp' ++ rest).map (·.1) = (cp ++ rest).map (·.1) := by simp only [List.map_append]; rw [show cp'.map (·.1) = cp.map (·.1) from h2]
  exact ⟨v, h1, _, cp' ++ rest, g4, hn v cp' _ g5 g6 (h5 _ g5 fun a u e1 e2 => g7 a u e1 (fun hm => by
    rw [hids] at hm
    obtain ⟨x, hx, e⟩ := List.mem_map.1 hm
    have := hs.ownlt x hx
    omega) e2) h2⟩
theorem fn_m {P : Program} {f : FuncId} {fn : Func} {code : Code} {args : List Value} {n : Nat} {w : World} {F0 F : Know} {cp : Own} {Rel : Value → Own → Know → Prop} (hf : P.funcs[f]? = some fn) (hb : fn.body = some code) (hn : fn.ntmps = n) (hlen : Nat.ble args.length n = true)
    (hF : ∀ a v, F a = some v → w.cell? a = some v) (haway : ∀ a v, F a = some v → a.block ∉ idsO cp) (hnd : (idsO cp).Nodup) (hown : ∀ x ∈ cp, w.heap[x.1]? = some x.2)
    (h : T ⟨P, n, w, idsO cp, none, []⟩ (mkEnv 0 args) F cp code (bodyQ P fn (fun e w' => ∃ v cp', e = .returned v ∧ idsO cp' = idsO cp ∧ (∀ x ∈ cp', w'.heap[x.1]? = some x.2) ∧ Keep (idsO cp) w w' ∧
      ∀ F' : Know, (∀ a u, F0 a = some u → F' a = some u) → (∀ a u, w.heap.size ≤ a.block → w'.cell? a = some u → F' a = some u) → Rel v cp' F'))) : CallsM P f args w F0 cp Rel :=
  fn_enter hf hb hn (Nat.le_of_ble_eq_true hlen) hF haway hnd (fun _ hx => List.mem_map_of_mem hx) hown h
theorem end_m {P : Program} {n : Nat} {w w1 : World} {F0 G : Know} {cp bs cp' : Own} {v : Value} {Rel : Value → Own → Know → Prop} (hp : own.Perm (bs ++ cp')) (hs : Sat ⟨P, n, w, idsO cp, none, []⟩ G own w1) (hi : idsO cp' = idsO cp)
    (h : ∀ F' : Know, (∀ a u, F0 a = some u → F' a = some u) → (∀ a u, G a = some u → w.heap.size ≤ a.block → F' a = some u) → (∀ p cs t fr k, (p, Obj.cells cs t fr) ∈ bs → ∀ u, cs[k]? = some u → F' ⟨p, k, none⟩ = some u) → Rel v cp' F') :
    ∃ u cq, Ending.returned v = .returned u ∧ idsO cq = idsO cp ∧ (∀ x ∈ cq, w1.heap[x.1]? = some x.2) ∧ Keep (idsO cp) w w1 ∧ ∀ F' : Know, (∀ a u, F0 a = some u → F' a = some u) → (∀ a u, w.heap.size ≤ a.block → w1.cell? a = some u → F' a = some u) → Rel u cq F' := by
  replace hs := hs.perm hp
  refine ⟨v, cp', rfl, hi, fun x hx => hs.own x (List.mem_append_right _ hx), hs.keep, fun F' h1 h2 => h F' h1 (fun a u ha hb => h2 a u hb (hs.know a u ha)) fun p cs t fr k hm u hu => h2 _ u ?_ ?_⟩
  · rcases hs.ids _ (List.mem_append_left _ hm) with h3 | h3
    · exact h3
    · exfalso
      have hn := hs.nodup
      rw [List.map_append, List.nodup_append] at hn
      exact hn.2.2 p (List.mem_map_of_mem (f := (·.1)) hm) p (by rw [show cp'.map (·.1) = idsO cp from hi]; exact h3) rfl
  · have := hs.own _ (List.mem_append_left _ hm)
    simp only at this
    simp [World.cell?, this, hu]
end
end Go.Eng

/-
  The engine, part 29: copy onto a slice of one's own.
-/
namespace Go.Eng
open Go
section
variable {c : Cx} {env : Env} {F : Know} {own : Own} {Q : Exit → Act → World → Prop}
variable {ty : TypeId} {ps : String} {af : Array Edge} {g : Option (Nat × Bool)} {l : List Oper} {k : Nat} {draw : Bool}
theorem run_copy_own {P : Program} {w : World} {T e : TypeId} {size bytes p n cp dc : Nat} {A : Addr} {cs news : List Value} (hT : AppT P T e size bytes) (hg : w.heap[p]? = some (.cells cs.toArray e (0, 0))) (hl : news.length = n * size) (hc : cs.length = n * size) (hnews : ∀ j u, news[j]? = some u → w.cell? (A.add j) = some u) (h1 : news.all oneCell = true) (ty : TypeId) :
    (Builtin.copy_ #[T, T] ty #[.slice (some ⟨p, 0, none⟩) n dc, .slice (some A) n cp]).run P w = .ok (goInt n) (setBlk w p (.cells news.toArray e (0, 0))) := by
  obtain ⟨i, z, hi, hz, hsz, hby, hzs⟩ := hT.el
  subst hsz
  have hcell : ∀ j, j < n * i.size → w.cell? (A.add j) = news[j]? := fun j hj => by
    obtain ⟨u, hu⟩ : ∃ u, news[j]? = some u := ⟨_, List.getElem?_eq_getElem (by omega)⟩
    rw [hu]; exact hnews j u hu
  have hload := run_loadCells (P := P) (w := w) (a := A) (n := n * i.size) (r := news) hl hcell
  have hst := run_storeCells_at (P := P) (p := p) (t := e) news 0 0 cs w hg (by omega) h1
  have hsp : splice cs 0 news = news := by
    unfold splice
    rw [Nat.zero_add, hl, ← hc, List.drop_length]; simp
  rw [Nat.zero_add, hsp] at hst
  simp [Builtin.copy_, run_underlying hT.ud, Builtin.lenOf, Builtin.firstCells, sizeOf, typeInfo, hi, hload, hst]
theorem oCopy {s x : Operand} {T e : TypeId} {size bytes : Nat} {n dc cp p : Nat} {cs : List Value} {A : Addr} {news : List Value} {t : Tmp} {own' : Own} (hB : draw = true → aloneB l.toArray k = true)
    (ho : nthO l k = some ⟨some t, .call { callee := .builtin .copy, args := #[s, x], argTypes := #[T, T] }, ty, ps, af, g⟩) (hT : AppT c.P T e size bytes) (hv : Env.ev env s = some (.slice (some ⟨p, 0, none⟩) n dc)) (hx : Env.ev env x = some (.slice (some A) n cp))
    (hd : Nat.blt t c.n = true) (hw : wantedB l.toArray env ⟨some t, .call { callee := .builtin .copy, args := #[s, x], argTypes := #[T, T] }, ty, ps, af, g⟩)
    (hu : Upd p (.cells cs.toArray e (0, 0)) (.cells news.toArray e (0, 0)) own own') (hl : news.length = n * size) (hc : cs.length = n * size) (hnews : ∀ j u, news[j]? = some u → F (A.add j) = some u) (h1 : news.all oneCell = true)
    (hn : R c draw l.toArray Q (k + 1) ((t, goInt n) :: env) F own') : R c draw l.toArray Q k env F own := by
  refine r_one (Array.getElem?_eq_some_iff.1 (by rw [← nthO_eq]; exact ho)).1 hB fun a w hh => ?_
  unfold wpOpIn
  have ho' : l.toArray[k]? = some ⟨some t, .call { callee := .builtin .copy, args := #[s, x], argTypes := #[T, T] }, ty, ps, af, g⟩ := by rw [← nthO_eq]; exact ho
  simp only [ho', wanted_of hh.env hw, if_true]
  refine ⟨fun _ _ => trivial, ?_⟩
  rw [Oper.semAt_eq _ _ _ (fun _ h => by cases h)]
  have hrun := run_copy_own (P := c.P) (n := n) (cp := cp) (dc := dc) hT (hh.sat.own _ hu.mem) hl hc (fun j u hj => hh.sat.know _ _ (hnews j u hj)) h1 ty
  unfold execOp
  simp only [resolve, invoke, builtin, Sem.run_bind, Sem.run_pure, Result.andThen_ok, List.map_toArray, List.map_cons, List.map_nil, hh.env.eval hv, hh.env.eval hx]
  rw [hrun]
  exact hn _ _ ⟨hh.env.put' (d := some t) (by simpa using hd) _, hh.sat.upd hu⟩
end
end Go.Eng

/-
  The engine, part 30: calls that write what they were lent, hand back blocks to be written, and memory that is only read.
-/
namespace Go.Eng
open Go
def CallsW (P : Program) (f : FuncId) (args : List Value) (w : World) (F : Know) (cp : Own) (R : Value → Own → Know → Prop) : Prop :=
  Calls P f args.toArray w fun e w' => ∃ v cp', e = .returned v ∧ (∀ x ∈ cp', x.1 ∈ idsO cp ∨ w.heap.size ≤ x.1) ∧ (idsO cp').Nodup ∧ (∀ x ∈ cp', w'.heap[x.1]? = some x.2) ∧ Keep (idsO cp) w w' ∧
    ∀ F' : Know, (∀ a u, F a = some u → F' a = some u) → (∀ a u, w.heap.size ≤ a.block → a.block ∉ idsO cp' → w'.cell? a = some u → F' a = some u) → R v cp' F'
theorem fresh_trans {c : Cx} {F F1 F2 : Know} (h1 : Fresh c F F1) (h2 : Fresh c F1 F2) : Fresh c F F2 := fun a u h => (h2 a u h).elim (h1 a u) .inr
theorem fresh_incl {c : Cx} {F F1 F' : Know} (hN : Fresh c F F1) (h1 : ∀ a u, F a = some u → F' a = some u) (h2 : ∀ a u, F1 a = some u → c.w0.heap.size ≤ a.block → F' a = some u) : Incl F1 F' := fun a u h => (hN a u h).elim (h1 a u) (h2 a u h)
section
variable {c : Cx} {env : Env} {F : Know} {own : Own} {Q : Exit → Act → World → Prop}
variable {d : Option Tmp} {ty : TypeId} {ps : String} {af : Array Edge} {g : Option (Nat × Bool)} {l : List Oper} {k : Nat} {draw : Bool}
theorem Sat.lentW {cp cp' rest : Own} {w w' : World} (h : Sat c F (cp ++ rest) w) (hi : ∀ x ∈ cp', x.1 ∈ idsO cp ∨ w.heap.size ≤ x.1) (hnd : (idsO cp').Nodup) (hc : ∀ x ∈ cp', w'.heap[x.1]? = some x.2) (hk : Keep (idsO cp) w w') : Sat c F (cp' ++ rest) w' := by
  have hin : ∀ i ∈ idsO cp, c.w0.heap.size ≤ i ∨ i ∈ c.S := fun i hm => by
    obtain ⟨x, hx, rfl⟩ := List.mem_map.1 hm
    exact h.ids x (List.mem_append_left _ hx)
  have hcpn : ∀ i ∈ idsO cp, ∀ x ∈ rest, i ≠ x.1 := fun i hm x hx e => by
    have hn := h.nodup
    rw [List.map_append, List.nodup_append] at hn
    exact hn.2.2 i hm x.1 (List.mem_map_of_mem hx) e
  have hlt : ∀ x ∈ rest, x.1 < w.heap.size := fun x hx => h.ownlt x (List.mem_append_right _ hx)
  refine ⟨⟨hk.os.trans h.keep.os, hk.tape.trans h.keep.tape, hk.output.trans h.keep.output, Nat.le_trans h.keep.size hk.size, fun b hb hs => ?_⟩, fun a v ha => ?_, fun a v ha hm => ?_, ?_, fun x hx => ?_, fun x hx => ?_⟩
  · have hn : b ∉ idsO cp := fun hm => by
      rcases hin b hm with h1 | h1
      · omega
      · exact hs h1
    exact (hk.old b (Nat.lt_of_lt_of_le hb h.keep.size) hn).trans (h.keep.old b hb hs)
  · refine hk.cell (h.know a v ha) fun hm => h.away a v ha ?_
    rw [List.map_append]; exact List.mem_append_left _ hm
  · rw [List.map_append, List.mem_append] at hm
    rcases hm with hm | hm
    · obtain ⟨x, hx, e⟩ := List.mem_map.1 hm
      rcases hi x hx with h1 | h1
      · exact h.away a v ha (by rw [List.map_append]; exact List.mem_append_left _ (e ▸ h1))
      · have := cell_lt (h.know a v ha)
        omega
    · exact h.away a v ha (by rw [List.map_append]; exact List.mem_append_right _ hm)
  · rw [List.map_append, List.nodup_append]
    have hn := h.nodup
    rw [List.map_append, List.nodup_append] at hn
    refine ⟨hnd, hn.2.1, fun i hm j hj e => ?_⟩
    obtain ⟨x, hx, rfl⟩ := List.mem_map.1 hm
    obtain ⟨y, hy, rfl⟩ := List.mem_map.1 hj
    rcases hi x hx with h1 | h1
    · exact hcpn _ h1 y hy e
    · have := hlt y hy; omega
  · rcases List.mem_append.1 hx with hx | hx
    · rcases hi x hx with h1 | h1
      · exact hin x.1 h1
      · exact .inl (Nat.le_trans h.keep.size h1)
    · exact h.ids x (List.mem_append_right _ hx)
  · rcases List.mem_append.1 hx with hx | hx
    · exact hc x hx
    · exact hk.block (h.own x (List.mem_append_right _ hx)) fun hm => hcpn _ hm x hx rfl
theorem oW {x : Operand} {f : FuncId} {us caps : List Value} {args : List Operand} {ts : Array TypeId} {vs : List Value} {cp rest : Own} {t : Tmp} {Rel : Value → Own → Know → Prop} (hp : own.Perm (cp ++ rest)) (hB : draw = true → aloneB l.toArray k = true)
    (ho : nthO l k = some ⟨some t, .call { callee := .value x, args := args.toArray, argTypes := ts }, ty, ps, af, g⟩) (hb : HasBody c.P f) (hx : Env.ev env x = some (.func (.func f) us.toArray caps.toArray)) (hv : args.mapM (Env.ev env) = some vs)
    (hd : Nat.blt t c.n = true) (hw : wantedB l.toArray env ⟨some t, .call { callee := .value x, args := args.toArray, argTypes := ts }, ty, ps, af, g⟩)
    (h : ∀ w, Sat c F (cp ++ rest) w → CallsW c.P f (us ++ vs ++ caps) w F cp Rel) (hn : ∀ v cp' F', Incl F F' → Fresh c F F' → Rel v cp' F' → R c draw l.toArray Q (k + 1) ((t, v) :: env) F' (cp' ++ rest)) : R c draw l.toArray Q k env F own := by
  refine tk_perm hp ?_
  refine r_call (by rw [← nthO_eq]; exact ho) hB (by simpa using hd) hw hb hx hv fun w hs => (h w hs).mono fun e w' he => ?_
  obtain ⟨v, cp', h1, h2, h2b, h3, h4, h5⟩ := he
  have hl := hs.lentW h2 h2b h3 h4
  obtain ⟨g4, g5, g6, g7⟩ := hl.news w.heap.size hs.keep.size
  exact ⟨v, h1, _, cp' ++ rest, g4, hn v cp' _ g5 g6 (h5 _ g5 fun a u e1 e2 e3 => g7 a u e1 (fun hm => by
    rw [List.map_append, List.mem_append] at hm
    rcases hm with hm | hm
    · exact e2 hm
    · obtain ⟨x, hx, e⟩ := List.mem_map.1 hm
      have := hs.ownlt x (List.mem_append_right _ hx)
      omega) e3)⟩
theorem fn_w {P : Program} {f : FuncId} {fn : Func} {code : Code} {args : List Value} {n : Nat} {w : World} {F0 F : Know} {cp : Own} {Rel : Value → Own → Know → Prop} (hf : P.funcs[f]? = some fn) (hb : fn.body = some code) (hn : fn.ntmps = n) (hlen : Nat.ble args.length n = true)
    (hF : ∀ a v, F a = some v → w.cell? a = some v) (haway : ∀ a v, F a = some v → a.block ∉ idsO cp) (hnd : (idsO cp).Nodup) (hown : ∀ x ∈ cp, w.heap[x.1]? = some x.2)
    (h : T ⟨P, n, w, idsO cp, none, []⟩ (mkEnv 0 args) F cp code (bodyQ P fn (fun e w' => ∃ v cp', e = .returned v ∧ (∀ x ∈ cp', x.1 ∈ idsO cp ∨ w.heap.size ≤ x.1) ∧ (idsO cp').Nodup ∧ (∀ x ∈ cp', w'.heap[x.1]? = some x.2) ∧ Keep (idsO cp) w w' ∧
      ∀ F' : Know, (∀ a u, F0 a = some u → F' a = some u) → (∀ a u, w.heap.size ≤ a.block → a.block ∉ idsO cp' → w'.cell? a = some u → F' a = some u) → Rel v cp' F'))) : CallsW P f args w F0 cp Rel :=
  fn_enter hf hb hn (Nat.le_of_ble_eq_true hlen) hF haway hnd (fun _ hx => List.mem_map_of_mem hx) hown h
theorem end_w {P : Program} {n : Nat} {w w1 : World} {F0 G : Know} {cp bs cp' : Own} {v : Value} {Rel : Value → Own → Know → Prop} (hp : own.Perm (bs ++ cp')) (hs : Sat ⟨P, n, w, idsO cp, none, []⟩ G own w1)
    (h : ∀ F' : Know, (∀ a u, F0 a = some u → F' a = some u) → (∀ a u, G a = some u → w.heap.size ≤ a.block → F' a = some u) → (∀ p cs t fr k, (p, Obj.cells cs t fr) ∈ bs → p ∉ idsO cp → ∀ u, cs[k]? = some u → F' ⟨p, k, none⟩ = some u) → Rel v cp' F') :
    ∃ u cq, Ending.returned v = .returned u ∧ (∀ x ∈ cq, x.1 ∈ idsO cp ∨ w.heap.size ≤ x.1) ∧ (idsO cq).Nodup ∧ (∀ x ∈ cq, w1.heap[x.1]? = some x.2) ∧ Keep (idsO cp) w w1 ∧
      ∀ F' : Know, (∀ a u, F0 a = some u → F' a = some u) → (∀ a u, w.heap.size ≤ a.block → a.block ∉ idsO cq → w1.cell? a = some u → F' a = some u) → Rel u cq F' := by
  replace hs := hs.perm hp
  have hn := hs.nodup
  rw [List.map_append, List.nodup_append] at hn
  refine ⟨v, cp', rfl, fun x hx => (hs.ids x (List.mem_append_right _ hx)).symm, hn.2.1, fun x hx => hs.own x (List.mem_append_right _ hx), hs.keep, fun F' h1 h2 => h F' h1 (fun a u ha hb => h2 a u hb (fun hm => hs.away a u ha (by rw [List.map_append]; exact List.mem_append_right _ hm)) (hs.know a u ha)) fun p cs t fr k hm hnp u hu => h2 _ u ?_ ?_ ?_⟩
  · rcases hs.ids _ (List.mem_append_left _ hm) with h3 | h3
    · exact h3
    · exact absurd h3 hnp
  · exact fun hm2 => hn.2.2 p (List.mem_map_of_mem (f := (·.1)) hm) p hm2 rfl
  · have := hs.own _ (List.mem_append_left _ hm)
    simp only at this
    simp [World.cell?, this, hu]
end
end Go.Eng

/-
  The engine, part 31: a block of one's own becomes known, where others are lent.
-/
namespace Go.Eng
open Go
section
variable {c : Cx} {env : Env} {F : Know} {own : Own} {Q : Exit → Act → World → Prop}
theorem tk_freezeQ {K : Act → World → Prop} {pre post : Own} {p : Nat} {cs : List Value} {T : TypeId} {fr : Nat × Nat} (hS : ∀ i ∈ c.S, i ∈ idsO (pre ++ post)) (h : ∀ F', Incl F F' → Fresh c F F' → (∀ k u, cs[k]? = some u → F' ⟨p, k, none⟩ = some u) → TK c env F' (pre ++ post) K) : TK c env F (pre ++ (p, .cells cs.toArray T fr) :: post) K := by
  intro a w hd
  have hs := hd.sat
  have hm : (p, Obj.cells cs.toArray T fr) ∈ pre ++ (p, .cells cs.toArray T fr) :: post := List.mem_append_right _ List.mem_cons_self
  have hp := hs.own _ hm
  simp only at hp
  have hsub : (pre ++ post).Sublist (pre ++ (p, Obj.cells cs.toArray T fr) :: post) := (List.sublist_cons_self _ _).append_left _
  have hs2 := hs.sub hsub
  have hnp : p ∉ (pre ++ post).map (·.1) := by
    have hn := hs.nodup
    rw [List.map_append, List.map_cons, List.nodup_append, List.nodup_cons] at hn
    rw [List.map_append, List.mem_append]
    rintro (h1 | h1)
    · exact hn.2.2 p h1 p List.mem_cons_self rfl
    · exact hn.2.1.1 h1
  have hlo : c.w0.heap.size ≤ p := by
    rcases hs.ids _ hm with h1 | h1
    · exact h1
    · exact absurd (hS p h1) hnp
  have hnF : ∀ a u, F a = some u → a.block ≠ p := fun a u ha e => hs.away a u ha (by rw [e]; exact List.mem_map_of_mem (f := (·.1)) hm)
  refine h (fun a => if a.block = p then objCell a (.cells cs.toArray T fr) else F a) (fun a u ha => ?_) (fun a u ha => ?_) (fun k u hu => ?_) a w ⟨hd.env, hs2.keep, fun a v ha => ?_, fun a v ha hm' => ?_, hs2.nodup, hs2.ids, hs2.own⟩
  · simp only [if_neg (hnF a u ha), ha]
  · simp only at ha
    split at ha
    · rename_i e; exact .inr (by rw [e]; exact hlo)
    · exact .inl ha
  · simp [objCell, hu]
  · split at ha
    · rename_i e
      rw [cell_objCell (by rw [e]; exact hp), ha]
    · exact hs.know a v ha
  · split at ha
    · rename_i e; rw [e] at hm'; exact hnp hm'
    · exact hs2.away a v ha hm'
end
end Go.Eng

/-
  The engine, part 32: a store to a block that was made in the same stretch, which may come up ahead of operations that it is unordered with.
-/
namespace Go.Eng
open Go
section
variable {P : Program} {ops : Array Oper} {md : Region.Mode} {C CP : World → Prop} {n0 : Nat} {kd : Nat → Kind} {ro : Option Nat}
def HoldsX (tb : Tmp) (L : TNews) (w : World) : Prop := ∀ x ∈ L, x.1 ≠ some tb → w.heap[x.2.1]? = some x.2.2
theorem CL_ofX {o : Oper} {L : TNews} {w wp : World} {tb : Tmp} (h1 : C w) (hL : HoldsL n0 L wp) (h2 : HoldsX tb L w) (hk : tb ∉ o.looksAt ops) : CL ops C n0 o L w := by
  refine ⟨h1, (hL.sub (restr_sub _ _ _)).nodup, fun x hx => ⟨(hL.at_ x ((restr_sub _ _ _).subset x hx)).1, h2 x ((restr_sub _ _ _).subset x hx) fun e => ?_⟩⟩
  have := (List.mem_filter.1 hx).2
  rw [e] at this
  simp at this
  exact hk this
def BarOkX (P : Program) (ops : Array Oper) (C : World → Prop) (tb : Tmp) (oj : Oper) (a : Act) (w : World) (L : TNews) : Prop :=
  Region.wanted oj (yielded ops a.tmps) = true ∧ ∃ nx v w', (execOp a.eval oj).run P w = .ok nx w' ∧ ((nx = .value v) ∨ (nx = .skip ∧ v = undef)) ∧ C w' ∧ HoldsX tb L w'
def barX (md : Region.Mode) (ops : Array Oper) (f j : Nat) (oj : Oper) (tb : Tmp) : Bool :=
  let S := clos md ops f (dmask md oj)
  (List.range j).all fun i => match ops[i]? with
    | none => false
    | some oi => S.testBit i || !((oi.looksAt ops).contains tb)
theorem wpAny_afterX {f j r : Nat} {tb : Tmp} {oj : Oper} {Z : ZK} {Q : Exit → Act → World → Prop} {vj : Value} {wp w' : World} {nxj : Next} (hj : ops[j]? = some oj) (hB1 : barB md ops f (j + 1) = true) (hsel : Region.noSelect ops = true)
    (hpl : barPlain md ops f j oj kd = true) (hbx : barX md ops f j oj tb = true) (hCp : C wp) (hC' : C w') (hrun' : (nxj = .value vj) ∨ (nxj = .skip ∧ vj = undef))
    (hZ : ∀ a L, HoldsL n0 L wp → HoldsX tb L w' → Z a L → (execOp a.eval oj).run P wp = .ok nxj w' → Region.wanted oj (yielded ops a.tmps) = true → wpAnyIn (FR ro) 0 P md ops Q r (lk ops.size (j + 1)) (a.put oj.dst vj) w') :
    ∀ (fuel : Nat) (listed : Array Bool) (a : Act) (L : TNews), listed.size = ops.size → Dn md ops listed → (∀ i, j ≤ i → i < ops.size → listed.getD i true = false) → (∀ e ∈ oj.after, Region.binds md e = true → listed.getD e.on false = true) →
      Few j listed fuel → HoldsL n0 L wp → HoldsX tb L w' → (execOp a.eval oj).run P wp = .ok nxj w' → Region.wanted oj (yielded ops a.tmps) = true → wpAnyG P md ops C n0 kd j Z fuel listed a L →
      wpAnyIn (FR ro) 0 P md ops Q (fuel + r) (listed.setIfInBounds j true) (a.put oj.dst vj) w' := by
  have hjn : j < ops.size := (Array.getElem?_eq_some_iff.1 hj).1
  intro fuel
  induction fuel with
  | zero =>
    intro listed a L hsz hd hup hw hfew hL hL' hrun hwant h
    have : listed.setIfInBounds j true = lk ops.size (j + 1) := by
      rw [← lk_step]
      congr 1
      apply Array.ext
      · rw [hsz, lk_size]
      · intro i h1 h2
        have hin : i < ops.size := by rw [← hsz]; exact h1
        have e2 : (lk ops.size j)[i] = decide (i < j) := by simp [lk]
        rw [e2]
        rcases Nat.lt_or_ge i j with hi | hi
        · have := hfew [i]
          simp only [List.nodup_cons, List.not_mem_nil, not_false_eq_true, List.nodup_nil, and_self, List.mem_cons, or_false, forall_eq, List.length_cons, List.length_nil, Nat.zero_add, Nat.le_zero_eq, Nat.one_ne_zero, imp_false, true_implies, not_and] at this
          have := this hi
          have e3 : listed.getD i true = listed[i] := by simp [h1]
          rw [e3] at this
          simp [hi]
          simpa using this
        · have := hup i hi hin
          have e3 : listed.getD i true = listed[i] := by simp [h1]
          rw [e3] at this
          rw [this]
          simp; omega
    rw [this]
    have := hZ a L hL hL' h hrun hwant
    simpa using this
  | succ fuel ih =>
    intro listed a L hsz hd hup hw hfew hL hL' hrun hwant h
    obtain ⟨hne, hall⟩ := h ⟨wp, hCp, hL⟩
    have hjr : j ∈ Region.ready md ops listed := mem_ready.2 ⟨hup j (Nat.le_refl _) hjn, oj, hj, hw⟩
    have hd2 : Dn md ops (listed.setIfInBounds j true) := hd.step hjr
    have hjl : (listed.setIfInBounds j true).getD j false = true := by have : j < listed.size := by omega
                                                                       simp [this]
    -- an operation below j has not come up yet
    obtain ⟨x, hx⟩ := List.exists_mem_of_ne_nil _ hne
    obtain ⟨hx1, hxj⟩ := mem_sready.1 hx
    have hnf : ¬ ∀ i, i < j + 1 → (listed.setIfInBounds j true).getD i false = true := by
      intro hf
      have h0 := (mem_ready.1 hx1).1
      have h1 := hf x (by omega)
      rw [getD_set_ne false (by omega)] at h1
      have hxn : x < listed.size := by omega
      simp [hxn] at h0 h1
      rw [h0] at h1; cases h1
    have harr : fuel + 1 + r = (fuel + r) + 1 := by omega
    rw [harr]
    refine ⟨fun h0 => ?_, fun i hi => ?_⟩
    · exfalso
      have := ready_mono (i := j) hx1 (by omega)
      rw [h0] at this; cases this
    · have hi0 := mem_ready.1 hi
      have hij : i ≠ j := by
        rintro rfl
        have := hi0.1
        rw [getD_set_self] at this; cases this
      have him : i < j := by
        rcases Nat.lt_or_ge i (j + 1) with h' | h'
        · omega
        · refine (hnf (barB_spec hB1 (by simpa using hsz) hd2 (fun i' hi' hin' => ?_) hi h')).elim
          rw [getD_set_ne true (by omega)]; exact hup i' (by omega) hin'
      obtain ⟨hun, o, ho, hwt⟩ := hi0
      rw [getD_set_ne true (Ne.symm hij)] at hun
      have hpi := List.all_eq_true.1 hpl i (List.mem_range.2 him)
      simp only [ho, Bool.and_eq_true, Bool.or_eq_true, Bool.not_eq_true'] at hpi
      obtain ⟨hnw, hpi⟩ := hpi
      have hirl : i ∈ Region.ready md ops listed := by
        refine mem_ready.2 ⟨hun, o, ho, fun e he hb => ?_⟩
        have := hwt e he hb
        have hne' : j ≠ e.on := by
          intro e'
          have h1 : (o.after.any fun e => Region.binds md e && e.on == j) = true := Array.any_eq_true'.2 ⟨e, he, by simp [hb, e']⟩
          rw [hnw] at h1; cases h1
        rwa [getD_set_ne false hne'] at this
      have hpl2 : plainOp o.op = true ∧ isDet (kd i) = true ∧ o.apart ops oj = true := by
        rcases hpi with hpi | hpi
        · exfalso
          have hl : Listed listed (dmask md oj) := by
            intro b hb
            obtain ⟨e, he, hbi, rfl⟩ := dmask_spec md oj b hb
            exact hw e he hbi
          have := clos_listed hd f _ hl i hpi
          have hin : i < listed.size := by omega
          simp [hin] at this hun
          rw [hun] at this; cases this
        · exact ⟨hpi.1.1, hpi.1.2, hpi.2⟩
      obtain ⟨hp1, hp2, hp3⟩ := hpl2
      obtain ⟨d1, d2, d3⟩ := Oper.apart_spec hp3
      obtain ⟨o', ho', hg⟩ := hall i (mem_sready.2 ⟨hirl, him⟩)
      rw [ho] at ho'; cases ho'
      have hg := hg ⟨wp, hCp, hL⟩
      have hselo : ∀ cs b, o.op ≠ .select cs b := fun cs b => Region.noSelect_spec hsel i o cs b ho
      have hselj : ∀ cs b, oj.op ≠ .select cs b := fun cs b => Region.noSelect_spec hsel j oj cs b hj
      have next : ∀ (v : Value) (L2 : TNews), HoldsL n0 L2 wp → HoldsX tb L2 w' → wpAnyG P md ops C n0 kd j Z fuel (listed.setIfInBounds i true) (a.put o.dst v) L2 → wpAnyIn (FR ro) 0 P md ops Q (fuel + r) ((listed.setIfInBounds j true).setIfInBounds i true) ((a.put oj.dst vj).put o.dst v) w' := by
        intro v L2 hL2 hL2' h'
        rw [Array.setIfInBounds_comm _ _ (Ne.symm hij), Act.put_comm a vj v (fun d hd he => d2 d he hd)]
        refine ih _ _ L2 (by simpa using hsz) (hd.step hirl) (fun i' hi' hin' => ?_) (fun e he hb => getD_set_true (hw e he hb)) (hfew.step him hun) hL2 hL2' ?_ ?_ h'
        · rw [getD_set_ne true (by omega)]; exact hup i' hi' hin'
        · rw [execOp_put (ops := ops) oj hselj a o.dst v d1]; exact hrun
        · rw [wanted_put oj a o.dst v d1]; exact hwant
      unfold wpOpIn
      simp only [ho]
      rw [wanted_put o a oj.dst vj d3]
      split
      · rename_i hwn
        simp only [hwn, if_true] at hg
        obtain ⟨S, hS, hk⟩ := hg
        have hlk : tb ∉ o.looksAt ops := by
          have hbi := List.all_eq_true.1 hbx i (List.mem_range.2 him)
          simp only [ho, Bool.or_eq_true] at hbi
          rcases hbi with hbi | hbi
          · exfalso
            have hl : Listed listed (dmask md oj) := by
              intro b hb
              obtain ⟨e, he, hbi2, rfl⟩ := dmask_spec md oj b hb
              exact hw e he hbi2
            have := clos_listed hd f _ hl i hbi
            have hin : i < listed.size := by omega
            simp [hin] at this hun
            rw [hun] at this; cases this
          · simpa using hbi
        have hcl : CL ops C n0 o L w' := CL_ofX hC' hL hL' hlk
        cases hkd : kd i with
        | new => rw [hkd] at hp2; cases hp2
        | mem φ => rw [hkd] at hp2; cases hp2
        | det =>
          rw [hkd] at hS
          obtain ⟨v, hv, hSv⟩ := hS
          have hdu := hv w' hcl
          have hK := hk v [] ((hSv v []).2 rfl)
          have hK' : wpAnyG P md ops C n0 kd j Z fuel (listed.setIfInBounds i true) (a.put o.dst v) L := by simpa [tagL] using hK
          refine ⟨fun _ _ => trivial, ?_⟩
          have e1 : execOp (a.put oj.dst vj).eval o = execOp a.eval o := execOp_put (ops := ops) o hselo a oj.dst vj d3
          rw [semAt_run (by rw [e1]; exact hdu.not), e1]
          have hpv := fun nx w2 (hh : (execOp a.eval o).run P w' = .ok nx w2) => plain_value hp1 hh
          generalize (execOp a.eval o).run P w' = res at *
          cases res with
          | halt x w2 => simp only [detUpon] at hdu
          | ok nx w2 =>
            obtain ⟨u, rfl⟩ := hpv nx w2 rfl
            simp only [detUpon] at hdu
            obtain ⟨rfl, rfl⟩ := hdu
            simp only [Oper.uponIn]
            exact next _ _ hL hL' hK'
      · rename_i hwn
        simp only [hwn, Bool.false_eq_true, if_false] at hg
        exact ⟨fun _ _ => trivial, next _ _ hL hL' hg⟩
theorem wpAny_barX {f j r : Nat} {tb : Tmp} {oj : Oper} {Z : ZK} {Q : Exit → Act → World → Prop} (hj : ops[j]? = some oj) (hB1 : barB md ops f (j + 1) = true) (hsel : Region.noSelect ops = true) (hdep : oj.after.all (fun e => !Region.binds md e || decide (e.on < j)) = true)
    (hpl : barPlain md ops f j oj kd = true) (hbx : barX md ops f j oj tb = true) (hC : ∀ w w', C w → Keep [] w w' → C w') (hn : ∀ w, C w → n0 ≤ w.heap.size) (hCP : ∀ w w', CP w → Keep [] w w' → CP w') (hCPC : ∀ w, CP w → C w) (hnd : ∀ d, oj.op ≠ .defer d)
    (hZ : ∀ a L w, CP w → HoldsL n0 L w → Z a L → wpOpIn (FR ro) 0 P ops Q j (wpAnyIn (FR ro) 0 P md ops Q r (lk ops.size (j + 1))) a w) (hZ2 : ∀ a L w, CP w → HoldsL n0 L w → Z a L → BarOkX P ops C tb oj a w L) :
    ∀ (fuel : Nat) (listed : Array Bool) (a : Act) (L : TNews) (w : World), listed.size = ops.size → Dn md ops listed → (∀ i, j ≤ i → i < ops.size → listed.getD i true = false) →
      Few j listed fuel → CP w → HoldsL n0 L w → wpAnyG P md ops C n0 kd j Z fuel listed a L → wpAnyIn (FR ro) 0 P md ops Q (fuel + (r + 1)) listed a w := by
  have hjn : j < ops.size := (Array.getElem?_eq_some_iff.1 hj).1
  have late : ∀ (listed : Array Bool) (i : Nat), listed.size = ops.size → Dn md ops listed → (∀ i, j ≤ i → i < ops.size → listed.getD i true = false) → i ∈ Region.ready md ops listed → i ≤ j := by
    intro listed i hsz hd hup hi
    rcases Nat.lt_or_ge i (j + 1) with h' | h'
    · omega
    · have h1 := barB_spec hB1 hsz hd (fun i' hi' hin' => hup i' (by omega) hin') hi h' j (by omega)
      have h2 := hup j (Nat.le_refl _) hjn
      have : j < listed.size := by omega
      simp [this] at h1 h2
      rw [h1] at h2; cases h2
  intro fuel
  induction fuel with
  | zero =>
    intro listed a L w hsz hd hup hfew hCw hL h
    have hlk : listed = lk ops.size j := by
      apply Array.ext
      · rw [hsz, lk_size]
      · intro i h1 h2
        have hin : i < ops.size := by rw [← hsz]; exact h1
        have e2 : (lk ops.size j)[i] = decide (i < j) := by simp [lk]
        rw [e2]
        rcases Nat.lt_or_ge i j with hi | hi
        · have := hfew [i]
          simp only [List.nodup_cons, List.not_mem_nil, not_false_eq_true, List.nodup_nil, and_self, List.mem_cons, or_false, forall_eq, List.length_cons, List.length_nil, Nat.zero_add, Nat.le_zero_eq, Nat.one_ne_zero, imp_false, true_implies, not_and] at this
          have := this hi
          have e3 : listed.getD i true = listed[i] := by simp [h1]
          rw [e3] at this
          simp [hi]
          simpa using this
        · have := hup i hi hin
          have e3 : listed.getD i true = listed[i] := by simp [h1]
          rw [e3] at this
          rw [this]
          simp; omega
    have hjr : j ∈ Region.ready md ops listed := by
      refine mem_ready.2 ⟨hup j (Nat.le_refl _) hjn, oj, hj, fun e he hb => ?_⟩
      have := Array.all_eq_true_iff_forall_mem.1 hdep e he
      simp only [hb, Bool.not_true, Bool.false_or, decide_eq_true_eq] at this
      rw [hlk, lk_get false (by omega)]
      simpa using this
    rw [Nat.zero_add]
    refine ⟨fun h0 => (by rw [h0] at hjr; cases hjr), fun i hi => ?_⟩
    have hle := late listed i hsz hd hup hi
    have hij : i = j := by
      rcases Nat.lt_or_ge i j with h' | h'
      · exfalso
        have := (mem_ready.1 hi).1
        rw [hlk, lk_get true (by omega)] at this
        simp at this; omega
      · omega
    subst hij
    rw [hlk, lk_step]
    exact hZ a L w hCw hL h
  | succ fuel ih =>
    intro listed a L w hsz hd hup hfew hCw hL h
    have hG := h
    obtain ⟨hne, hall⟩ := h ⟨w, hCPC w hCw, hL⟩
    have harr : fuel + 1 + (r + 1) = (fuel + (r + 1)) + 1 := by omega
    rw [harr]
    refine ⟨fun h0 => ?_, fun i hi => ?_⟩
    · exfalso; apply hne; unfold sready; rw [h0]; rfl
    · have hle := late listed i hsz hd hup hi
      rcases Nat.lt_or_ge i j with him | hge
      · obtain ⟨o, ho, hg⟩ := hall i (mem_sready.2 ⟨hi, him⟩)
        have hiun := (mem_ready.1 hi).1
        have next : ∀ a' L' w', CP w' → HoldsL n0 L' w' → wpAnyG P md ops C n0 kd j Z fuel (listed.setIfInBounds i true) a' L' → wpAnyIn (FR ro) 0 P md ops Q (fuel + (r + 1)) (listed.setIfInBounds i true) a' w' := by
          intro a' L' w' hC' hL' h'
          refine ih _ a' L' w' (by simpa using hsz) (hd.step hi) (fun i' hi' hin' => ?_) (hfew.step him hiun) hC' hL' h'
          rw [getD_set_ne true (by omega)]; exact hup i' hi' hin'
        have hg := hg ⟨w, hCPC w hCw, hL⟩
        unfold wpOpIn
        simp only [ho]
        split
        · rename_i hw
          simp only [hw, if_true] at hg
          refine ⟨fun _ _ => trivial, ?_⟩
          obtain ⟨S, hS, hk⟩ := hg
          have hcl : CL ops C n0 o L w := CL_of (hCPC w hCw) hL
          cases hkd : kd i with
          | det =>
            rw [hkd] at hS
            obtain ⟨v, hv, hSv⟩ := hS
            have := hv w hcl
            have hK := hk v [] ((hSv v []).2 rfl)
            rw [semAt_run this.not]
            generalize (execOp a.eval o).run P w = res at *
            cases res with
            | halt x w' => simp only [detUpon] at this
            | ok nx w' =>
              cases nx <;> simp only [detUpon] at this <;> simp only [Oper.uponIn]
              case value u => obtain ⟨rfl, rfl⟩ := this; exact next _ _ _ hCw hL hK
              case skip => obtain ⟨rfl, rfl⟩ := this; exact next _ _ _ hCw hL hK
              case enter f args =>
                obtain ⟨rfl, _, hc⟩ := this
                exact ⟨FR_dep, calls_FR (hc.mono fun e w'' ⟨he, hkp⟩ => by subst he; exact next _ _ _ (hCP _ _ hCw hkp) (hL.keep hkp) hK)⟩
          | new =>
            rw [hkd] at hS
            obtain ⟨v, w', hr, hkp, hSv⟩ := hS w hcl
            rw [semAt_run (by rw [hr]; trivial), hr]
            exact next _ _ _ (hCP w w' hCw hkp) (hL.add _ (hn w (hCPC w hCw)) hkp) (hk _ _ hSv)
          | mem φ =>
            rw [hkd] at hS
            obtain ⟨hS1, hS2⟩ := hS
            have := hS2 w hcl
            rw [semAt_run this.not]
            generalize (execOp a.eval o).run P w = res at *
            cases res with
            | halt x w' => simp only [memUpon] at this
            | ok nx w' =>
              cases nx <;> simp only [memUpon] at this <;> simp only [Oper.uponIn]
              case value u => exact next _ _ _ (hCP w w' hCw this.1) (hL.add _ (hn w (hCPC w hCw)) this.1) (hk _ _ ((hS1 _ _).2 this.2))
              case enter f args =>
                obtain ⟨rfl, hc⟩ := this
                exact ⟨FR_dep, calls_FR (hc.mono fun e w'' ⟨v, he, hkp, hφ⟩ => by subst he; exact next _ _ _ (hCP _ _ hCw hkp) (hL.add _ (hn _ (hCPC _ hCw)) hkp) (hk _ _ ((hS1 _ _).2 hφ)))⟩
        · rename_i hw
          simp only [hw] at hg
          exact ⟨fun _ _ => trivial, next _ _ _ hCw hL hg⟩
      · have hij : i = j := by omega
        subst hij
        have hw : ∀ e ∈ oj.after, Region.binds md e = true → listed.getD e.on false = true := fun e he hb => by
          obtain ⟨_, o', ho', hall'⟩ := mem_ready.1 hi
          rw [hj] at ho'; cases ho'
          exact hall' e he hb
        obtain ⟨a', g1, g2, g3⟩ := after_run hsel hj hpl (hCPC w hCw) (fuel + 1) listed a L hsz hd hup hw hL hG
        obtain ⟨b1, nx, v, w', b2, b3, b4, b5⟩ := hZ2 a' L w hCw hL g1
        rw [g2] at b2
        rw [g3] at b1
        have key := wpAny_afterX (tb := tb) (ro := ro) (r := r) (Q := Q) (vj := v) (wp := w) (w' := w') (nxj := nx) hj hB1 hsel hpl hbx (hCPC w hCw) b4 b3 (fun a1 L1 hL1 hL1' hz hrun hwant => ?_) (fuel + 1) listed a L hsz hd hup hw hfew hL b5 b2 b1 hG
        · unfold wpOpIn
          simp only [hj, b1, if_true]
          refine ⟨fun _ _ => trivial, ?_⟩
          rw [Oper.semAt_eq _ _ _ hnd, b2]
          have ef : fuel + (r + 1) = fuel + 1 + r := by omega
          rw [ef]
          rcases b3 with rfl | ⟨rfl, rfl⟩
          · exact key
          · exact key
        · have h1 := hZ a1 L1 w hCw hL1 hz
          unfold wpOpIn at h1
          simp only [hj, hwant, if_true] at h1
          have h1 := h1.2
          rw [Oper.semAt_eq _ _ _ hnd, hrun] at h1
          rcases b3 with rfl | ⟨rfl, rfl⟩
          · exact h1
          · exact h1
end
section
variable {c : Cx} {env : Env} {F : Know} {own : Own} {Q : Exit → Act → World → Prop}
def barjX (ops : Array Oper) (f j : Nat) (tb : Tmp) : Bool := match ops[j]? with
  | some oj => barX .any ops f j oj tb
  | none => false
def BarX (c : Cx) (ops : Array Oper) (j : Nat) (env : Env) (F : Know) (tb : Tmp) (N' : List Item) (own : Own) : Prop :=
  ∃ p ob, Item.own (some tb) p ob ∈ N' ∧ ∀ a w oj, ops[j]? = some oj → Hd c env F (ownsI N' ++ own) a w → Region.wanted oj (yielded ops a.tmps) = true ∧ ∃ nx v w', (execOp a.eval oj).run c.P w = .ok nx w' ∧ ((nx = .value v) ∨ (nx = .skip ∧ v = undef)) ∧ Sat c F own w' ∧ Keep [p] w w'
theorem real_own {N : List Item} {L : TNews} (h : Real F N L) {t : Option Tmp} {p : Nat} {ob : Obj} (hm : Item.own t p ob ∈ N) : ∃ y, y ∈ L ∧ y.1 = t ∧ y.2.1 = p := by
  induction h with
  | nil => cases hm
  | own _ ih =>
    rcases List.mem_cons.1 hm with h | h
    · cases h; exact ⟨_, List.mem_cons_self, rfl, rfl⟩
    · obtain ⟨y, h1, h2⟩ := ih h; exact ⟨y, List.mem_cons_of_mem _ h1, h2⟩
  | fact _ _ ih =>
    rcases List.mem_cons.1 hm with h | h
    · cases h
    · obtain ⟨y, h1, h2⟩ := ih h; exact ⟨y, List.mem_append_right _ h1, h2⟩
theorem nodup_tag {L : TNews} (h : (L.map (·.2.1)).Nodup) {x y : Option Tmp × Nat × Obj} (hx : x ∈ L) (hy : y ∈ L) (e : x.2.1 = y.2.1) : x = y := by
  induction L with
  | nil => cases hx
  | cons z r ih =>
    rw [List.map_cons, List.nodup_cons] at h
    rcases List.mem_cons.1 hx with h1 | h1
    · rcases List.mem_cons.1 hy with h2 | h2
      · rw [h1, h2]
      · exact absurd (by rw [← h1, e]; exact List.mem_map_of_mem (f := (·.2.1)) h2) h.1
    · rcases List.mem_cons.1 hy with h2 | h2
      · exact absurd (by rw [← h2, ← e]; exact List.mem_map_of_mem (f := (·.2.1)) h1) h.1
      · exact ih h.2 h1 h2
theorem r_barX {ops : Array Oper} {k : Nat} (f j : Nat) (tb : Tmp) (ns : List Nat) (l : List Nat) (hB : (barjB ops (kindOf ns []) f k j l && barjX ops f j tb) = true)
    (h : SG c ops F own (kindOf ns []) (fun env' N' => R c true ops Q j env' F (ownsI N' ++ own) ∧ BarX c ops j env' F tb N' own) l env []) : R c true ops Q k env F own := by
  rw [Bool.and_eq_true] at hB
  obtain ⟨hB, hX⟩ := hB
  simp only [barjB, Bool.and_eq_true, decide_eq_true_eq, beq_iff_eq] at hB
  obtain ⟨⟨⟨⟨⟨⟨⟨hkj, hjn⟩, hlen⟩, hsel⟩, hdn⟩, hbar⟩, hlex⟩, hrest⟩ := hB
  obtain ⟨oj, hoj⟩ : ∃ oj, ops[j]? = some oj := ⟨ops[j], by rw [Array.getElem?_eq_getElem hjn]⟩
  simp only [hoj, Bool.and_eq_true] at hrest
  obtain ⟨⟨hnd, hdep⟩, hpl⟩ := hrest
  have hbx : barX .any ops f j oj tb = true := by simpa [barjX, hoj] using hX
  have hnd' : ∀ d, oj.op ≠ .defer d := by
    intro d hd; rw [hd] at hnd; cases hnd
  intro a w hd
  have e1 : ops.size - k = (j - k) + ((ops.size - (j + 1)) + 1) := by omega
  simp only [RestOf]
  rw [e1]
  have hsd := hd.sat
  have hC : ∀ w1 w2, CW c F own w.heap.size w1 → Keep [] w1 w2 → CW c F own w.heap.size w2 := fun w1 w2 h1 hk => ⟨h1.1.keep' hk, Nat.le_trans h1.2 hk.size⟩
  have hn : ∀ w1, CW c F own w.heap.size w1 → w.heap.size ≤ w1.heap.size := fun w1 h1 => h1.2
  have fin : ∀ a1 L1 w1, CW c F own w.heap.size w1 → HoldsL w.heap.size L1 w1 → Zfin c F own w.heap.size (fun env' N' => R c true ops Q j env' F (ownsI N' ++ own) ∧ BarX c ops j env' F tb N' own) a1 L1 →
      ∃ env' N' L2, SubP L2 L1 ∧ Real F N' L2 ∧ Hd c env' F (ownsI N' ++ own) a1 w1 ∧ R c true ops Q j env' F (ownsI N' ++ own) ∧ BarX c ops j env' F tb N' own := by
    intro a1 L1 w1 h1 hL hz
    obtain ⟨env', N', L2, g1, g2, g3, g4, g5⟩ := hz ⟨w1, h1, hL⟩
    refine ⟨env', N', L2, g1, g2, ⟨g3, join_real h1.1 hd.sat.ownlt hd.sat.knowlt hd.sat.keep.size (hL.sub g1) g2⟩, g4, g5⟩
  refine wpAny_barX (tb := tb) (kd := kindOf ns []) (n0 := w.heap.size) (C := CW c F own w.heap.size) (CP := CW c F own w.heap.size) hoj hbar hsel hdep hpl hbx hC hn (fun w1 w2 h1 hk => ⟨h1.1.keep' hk, Nat.le_trans h1.2 hk.size⟩) (fun w1 h1 => h1) hnd'
    (Z := Zfin c F own w.heap.size (fun env' N' => R c true ops Q j env' F (ownsI N' ++ own) ∧ BarX c ops j env' F tb N' own)) ?_ ?_ (j - k) (lk ops.size k) a [] w (lk_size _ _) (dnB_spec hdn) (fun i hi hin => ?_) (few_lk (by omega)) ⟨hd.sat, Nat.le_refl _⟩ (HoldsL.nil _ _) ?_
  · intro a1 L1 w1 h1 hL hz
    obtain ⟨env', N', L2, _, _, g3, g4, _⟩ := fin a1 L1 w1 h1 hL hz
    have := g4 a1 w1 g3
    simp only [RestOf] at this
    have e2 : ops.size - j = (ops.size - (j + 1)) + 1 := by omega
    rw [e2] at this
    have hr : j ∈ Region.ready .any ops (lk ops.size j) := by
      refine mem_ready.2 ⟨by rw [lk_get true hjn]; simp, oj, hoj, fun e he hb => ?_⟩
      have := Array.all_eq_true_iff_forall_mem.1 hdep e he
      simp only [hb, Bool.not_true, Bool.false_or, decide_eq_true_eq] at this
      rw [lk_get false (by omega)]
      simpa using this
    have := this.2 j hr
    rwa [lk_step] at this
  · intro a1 L1 w1 h1 hL hz
    obtain ⟨env', N', L2, g1, g2, g3, _, g5⟩ := fin a1 L1 w1 h1 hL hz
    obtain ⟨p, ob, hit, g6⟩ := g5
    obtain ⟨k1, nx, v, w', k2, k3, k4, k5⟩ := g6 a1 w1 oj hoj g3
    refine ⟨k1, nx, v, w', k2, k3, ⟨k4, Nat.le_trans h1.2 k5.size⟩, fun x hx hxt => ?_⟩
    refine k5.block (hL.at_ x hx).2 fun hm => hxt ?_
    rw [List.mem_singleton] at hm
    obtain ⟨y, hy, hy1, hy2⟩ := real_own g2 hit
    have hy3 := g1.subset y hy
    have := nodup_tag hL.nodup hx hy3 (by rw [hm, hy2])
    rw [this, hy1]
  · rw [lk_get true hin]; simp; omega
  · rw [← hlen]
    exact wpAnyG_lex hC hn Zfin_inv hsel l _ a [] (by rw [hlen]; exact few_lk (by omega)) hlex (h (lexG_in l _ hlex) w.heap.size a [] (fun x hx => hd.sat.ownlt x hx) hd.env .nil)
variable {ty : TypeId} {ps : String} {af : Array Edge} {g : Option (Nat × Bool)} {l : List Oper} {k : Nat} {V : List Nat} {own' : Own}
theorem barX_stN {t : TypeId} {n : Nat} {x y : Operand} {A : Addr} {p j : Nat} {vs cs cs' : List Value} {T : TypeId} {own2 : Own} {tb : Tmp} {N' : List Item} {ob : Obj} (ho : nthO l k = some ⟨none, .store t x y, ty, ps, af, g⟩) (ht : TAgg c.P t n) (hx : Env.ev env x = some (.pointer (some A))) (hA : A = ⟨p, j, none⟩) (hy : Env.ev env y = some (.agg vs.toArray))
    (hu : Upd p (.cells cs.toArray T (0, 0)) (.cells cs'.toArray T (0, 0)) (ownsI N' ++ own) own2) (hs : setV j vs cs some = some cs')
    (hw : wantedB l.toArray env ⟨none, .store t x y, ty, ps, af, g⟩) (hn : vs.length = n) (hv : vs.all oneCell = true) (hit : Item.own (some tb) p ob ∈ N') (hsub : own.Sublist own2) : BarX c l.toArray k env F tb N' own := by
  refine ⟨p, ob, hit, fun a w oj hoj hh => ?_⟩
  rw [← nthO_eq, ho] at hoj
  cases hoj
  subst hA
  obtain ⟨h1, h2⟩ := setV_some hs
  simp only [Option.some.injEq] at h2
  refine ⟨wanted_of hh.env hw, .skip, undef, setBlk w p (.cells cs'.toArray T (0, 0)), ?_, .inr ⟨rfl, rfl⟩, (hh.sat.upd hu).sub hsub, keep_setBlk (List.mem_singleton.2 rfl)⟩
  have hr := run_storeAt (P := c.P) (w := w) (t := t) (n := n) (k := j) ht.size (v := .agg vs.toArray) rfl hn (hh.sat.own _ hu.mem) h1 hv
  rw [h2] at hr
  simp only [execOp, hh.env.eval hx, hh.env.eval hy, Sem.run_bind, hr, Result.andThen_ok, Sem.run_pure]
end
end Go.Eng

/-
  The engine, part 33: ranges over a function that has a block of its own since before the range, and looks at what the rounds have left.
-/
namespace Go.Eng
open Go
def butq (q : Nat) (W : World) : Know := fun a => if a.block = q then none else W.cell? a
structure Rounds3 (P : Program) (l q : Nat) (xs : List (List Value)) (See : Nat → Know → Prop) (J : Nat → List Nat → World → Prop) (Jx : List Nat → World → Prop) : Prop where
  st : ∀ k ids W W', J k ids W → Keep [q] W W' → J k ids W'
  stx : ∀ ids W W', Jx ids W → Keep [q] W W' → Jx ids W'
  see : ∀ k ids W, J k ids W → See k (butq q W)
  nq : ∀ k ids W, J k ids W → q ∉ ids
  round : ∀ k (hk : k < xs.length) ids W o, J k ids W → W.heap[q]? = some o → RoundW P l xs[k] W fun e W' => (e = .returned (.bool true) ∧ ∃ ids' : List Nat, J (k + 1) ids' W' ∧ Keep ids W W') ∨ (e = .returned (.bool false) ∧ ∃ ids' : List Nat, Jx ids' W' ∧ Keep ids W W')
def Gives3 (P : Program) (f : FuncId) (caps : List Value) (q : Nat) (o0 : Obj) (xs : List (List Value)) (See : Nat → Know → Prop) : Prop :=
  ∀ (l : Nat) (J : Nat → List Nat → World → Prop) (Jx : List Nat → World → Prop) (w : World) (ids : List Nat), Rounds3 P l q xs See J Jx → J 0 ids w → w.heap[q]? = some o0 →
    Calls P f (yieldV l :: caps).toArray w fun e w' => ∃ v, e = .returned v ∧ ∃ ids', (J xs.length ids' w' ∨ Jx ids' w')
theorem butq_cell {q : Nat} {W : World} {a : Addr} {u : Value} (h : butq q W a = some u) : W.cell? a = some u ∧ a.block ≠ q := by
  unfold butq at h
  split at h
  · cases h
  · rename_i hn; exact ⟨h, hn⟩
theorem fn_gives3 {P : Program} {f : FuncId} {fn : Func} {code : Code} {caps : List Value} {n : Nat} {q : Nat} {o0 : Obj} {xs : List (List Value)} {See : Nat → Know → Prop} (hf : P.funcs[f]? = some fn) (hb : fn.body = some code) (hn : fn.ntmps = n) (hlen : Nat.ble (caps.length + 1) n = true)
    (h : ∀ (l : Nat) (J : Nat → List Nat → World → Prop) (Jx : List Nat → World → Prop) (w : World), Rounds3 P l q xs See J Jx → (∃ ids, J 0 ids w) → ∀ F, See 0 F → T ⟨P, n, w, [q], none, []⟩ (mkEnv 0 (yieldV l :: caps)) F [(q, o0)] code (bodyQ P fn (fun e w' => ∃ v, e = .returned v ∧ ∃ ids', (J xs.length ids' w' ∨ Jx ids' w')))) : Gives3 P f caps q o0 xs See :=
  fun l J Jx w ids hR hJ hq => fn_enter hf hb hn (Nat.le_of_ble_eq_true hlen) (fun a v ha => (butq_cell ha).1) (fun a v ha hm => (butq_cell ha).2 (by simpa using hm)) (by simp) (fun x hx => by rw [List.mem_singleton] at hx; subst hx; simp) (fun x hx => by rw [List.mem_singleton] at hx; subst hx; exact hq)
    (h l J Jx w hR ⟨ids, hJ⟩ (butq q w) (hR.see 0 ids w hJ))
section
variable {P : Program} {n q : Nat} {w0 : World} {env : Env} {F : Know} {own : Own} {Q : Exit → Act → World → Prop}
theorem oY3 {ty : TypeId} {ps : String} {af : Array Edge} {g : Option (Nat × Bool)} {l : List Oper} {k : Nat} {draw : Bool} {t : Tmp} {x : Operand} {lp : Nat} {args : List Operand} {ts : Array TypeId} {vs : List Value} {xs : List (List Value)} {See : Nat → Know → Prop} {J : Nat → List Nat → World → Prop} {Jx : List Nat → World → Prop} {i : Nat} {ob : Obj} (hR : Rounds3 P lp q xs See J Jx) (hJ : ∃ ids, J i ids w0) (hi : i < xs.length)
    (hB : draw = true → aloneB l.toArray k = true) (ho : nthO l k = some ⟨some t, .call { callee := .value x, args := args.toArray, argTypes := ts }, ty, ps, af, g⟩) (hx : Env.ev env x = some (yieldV lp)) (hv : args.mapM (Env.ev env) = some vs)
    (hd : Nat.blt t n = true) (hw : wantedB l.toArray env ⟨some t, .call { callee := .value x, args := args.toArray, argTypes := ts }, ty, ps, af, g⟩) (hvs : vs = xs[i])
    (h1 : ∀ w1, (∃ ids, J (i + 1) ids w1) → ∀ F', See (i + 1) F' → R ⟨P, n, w1, [q], none, []⟩ draw l.toArray Q (k + 1) ((t, .bool true) :: env) F' [(q, ob)])
    (h2 : ∀ w1, (∃ ids, Jx ids w1) → R ⟨P, n, w1, [q], none, []⟩ draw l.toArray Q (k + 1) ((t, .bool false) :: env) noK [(q, ob)]) : R ⟨P, n, w0, [q], none, []⟩ draw l.toArray Q k env F [(q, ob)] := by
  obtain ⟨ids, hJ⟩ := hJ
  refine r_one (Array.getElem?_eq_some_iff.1 (by rw [← nthO_eq]; exact ho)).1 hB fun a w hh => ?_
  unfold wpOpIn
  have ho' : l.toArray[k]? = some ⟨some t, .call { callee := .value x, args := args.toArray, argTypes := ts }, ty, ps, af, g⟩ := by rw [← nthO_eq]; exact ho
  simp only [ho', wanted_of hh.env hw, if_true]
  refine ⟨fun _ _ => trivial, ?_⟩
  rw [Oper.semAt_eq _ _ _ (fun _ h => by cases h)]
  subst hvs
  have hJw := hR.st i _ _ _ hJ hh.sat.keep
  have hob : w.heap[q]? = some ob := hh.sat.own (q, ob) (List.mem_singleton.2 rfl)
  obtain ⟨fn, tmps, assign, body, hy, hr⟩ := hR.round i hi ids w ob hJw hob
  have e : (execOp a.eval ⟨some t, .call { callee := .value x, args := args.toArray, argTypes := ts }, ty, ps, af, g⟩).run P w = .ok (.round lp fn tmps assign body) w := by
    have e : args.toArray.map a.eval = xs[i].toArray := by rw [List.map_toArray, evals hh.env hv]
    simp only [execOp, Sem.run_bind, run_resolve_func (hh.env.eval hx), Result.andThen_ok, invoke]
    rw [e]
    simpa using hy
  rw [e]
  simp only [Oper.uponIn]
  refine ⟨FR_dep, hr.mono fun e w' he => ?_⟩
  have hnq := hR.nq _ _ _ hJw
  rcases he with ⟨rfl, ids', hj, hkp⟩ | ⟨rfl, ids', hj, hkp⟩
  · have hb2 := hkp.block hob hnq
    refine h1 w' ⟨ids', hj⟩ (butq q w') (hR.see _ _ _ hj) _ _ ⟨hh.env.put' (d := some t) hd _, Keep.refl _ _, fun a u ha => (butq_cell ha).1, fun a u ha hm => (butq_cell ha).2 (by simpa using hm), by simp, fun x hx => ?_, fun x hx => ?_⟩
    · rw [List.mem_singleton] at hx; subst hx; exact .inr (by simp)
    · rw [List.mem_singleton] at hx; subst hx; exact hb2
  · have hb2 := hkp.block hob hnq
    refine h2 w' ⟨ids', hj⟩ _ _ ⟨hh.env.put' (d := some t) hd _, Keep.refl _ _, fun _ _ h => (by cases h), fun _ _ h => (by cases h), by simp, fun x hx => ?_, fun x hx => ?_⟩
    · rw [List.mem_singleton] at hx; subst hx; exact .inr (by simp)
    · rw [List.mem_singleton] at hx; subst hx; exact hb2
theorem t_whileG3 {x : Code} {σ : Type} (M : σ → Env) (O : σ → Own) (μ : σ → Nat) (I : σ → World → Know → Prop) (s0 : σ) {env0 : Env} (h0 : I s0 w0 F) (hm : Env.sub (M s0) env) (h1 : Env.sub env0 env) (ho : (O s0).Sublist own)
    (round : ∀ s w1 F1, I s w1 F1 → T ⟨P, n, w1, [q], none, []⟩ (M s ++ env0) F1 (O s) x (Exit.then (fun a w => ∃ s' w2 F2, I s' w2 F2 ∧ μ s' < μ s ∧ Hd ⟨P, n, w2, [q], none, []⟩ (M s' ++ env0) F2 (O s') a w) Q)) : T ⟨P, n, w0, [q], none, []⟩ env F own (.loop x) Q := by
  have hsub : Env.sub (M s0 ++ env0) env := by
    generalize M s0 = m at hm
    induction m with
    | nil => exact h1
    | cons y r ih => obtain ⟨t, v⟩ := y; exact ⟨hm.1, ih hm.2⟩
  intro a w hd b k cs hro hb hr
  have hd := hd.drop hsub ho
  have key : ∀ j (s : σ) w1 F1 a w, μ s = j → I s w1 F1 → Hd ⟨P, n, w1, [q], none, []⟩ (M s ++ env0) F1 (O s) a w →
      ∃ e a' w', Q e a' w' ∧ ArrivesIn (Machine.fenced P (FR none)) P (lone (b.atR a (.code x :: .inLoop x :: k)) cs w) b k cs e a' w' := by
    intro j
    induction j using Nat.strongRecOn with
    | _ j ih =>
      intro s w1 F1 a w hn hI hd
      obtain ⟨e, a₁, w₁, hq, harr⟩ := round s w1 F1 hI a w hd b (.inLoop x :: k) cs hro hb hr
      cases e with
      | normal =>
        obtain ⟨s', w2, F2, hI₁, hlt, hd₁⟩ := hq
        obtain ⟨e₂, a₂, w₂, hq₂, harr₂⟩ := ih (μ s') (hn ▸ hlt) s' w2 F2 a₁ w₁ rfl hI₁ hd₁
        exact ⟨e₂, a₂, w₂, hq₂, .of_steps (StepsIn.trans harr (.one (fenced_calm hb hr rfl) stepR_inLoop)) harr₂⟩
      | exit id => exact ⟨_, a₁, w₁, hq, .pass (x := .inLoop x) rfl (fun _ _ => .inl (by simp)) harr⟩
      | goto l => exact ⟨_, a₁, w₁, hq, .pass (x := .inLoop x) rfl (fun _ _ => .inl (by simp)) harr⟩
      | ret => exact ⟨_, a₁, w₁, hq, .pass (x := .inLoop x) rfl (fun _ _ => .inl (by simp)) harr⟩
      | panic ch => exact ⟨_, a₁, w₁, hq, .pass (x := .inLoop x) rfl (fun _ _ => .inl (by simp)) harr⟩
      | outgrown => exact ⟨_, a₁, w₁, hq, .pass (x := .inLoop x) rfl (fun _ _ => .inl (by simp)) harr⟩
  obtain ⟨e, a', w', hq, harr⟩ := key _ s0 w0 F a w rfl h0 hd
  exact ⟨e, a', w', hq, .of_steps (.one (fenced_calm hb hr rfl) stepR_loop) harr⟩
theorem loop_backG3 {σ : Type} {E : σ → Env} {O : σ → Own} {μ : σ → Nat} {I : σ → World → Know → Prop} {s : σ} (s' : σ) (h0 : I s' w0 F) (hm : μ s' < μ s) (he : Env.sub (E s') env) (ho : (O s').Sublist own) :
    TK ⟨P, n, w0, [q], none, []⟩ env F own (fun a w => ∃ s' w2 F2, I s' w2 F2 ∧ μ s' < μ s ∧ Hd ⟨P, n, w2, [q], none, []⟩ (E s') F2 (O s') a w) := fun _ _ hd => ⟨s', w0, F, h0, hm, hd.drop he ho⟩
end
end Go.Eng

/-
  The engine, part 34: the range over such a function.
-/
namespace Go.Eng
open Go
section
variable {P : Program} {n : Nat} {w0 : World} {env : Env} {F : Know} {own : Own} {Q : Exit → Act → World → Prop}
def SatJ3 {σ : Type} (c : Cx) (G : σ → Know) (O : σ → Own) (I : Nat → σ → Prop) (l D : Nat) (r : Loop) (k : Nat) (q : Nat) (o : Obj) (W : World) : Prop := ∃ s, I k s ∧ Sat c (G s) (O s ++ [(q, o), (l, .loop r), deadO D]) W
def SatX3 {σ : Type} (c : Cx) (G : σ → Know) (O : σ → Own) (Ix : Code → σ → Prop) (l D : Nat) (r : Loop) (q : Nat) (o : Obj) (W : World) : Prop := ∃ jump s, Ix jump s ∧ Sat c (G s) (O s ++ [(q, o), (l, .loop { r with state := .done, pending := some jump }), deadO D]) W
def RQ3 {σ : Type} (c : Cx) (G : σ → Know) (O : σ → Own) (I : Nat → σ → Prop) (Ix : Code → σ → Prop) (l D : Nat) (r : Loop) (k : Nat) (q : Nat) (o : Obj) : Exit → Act → World → Prop :=
  roundPost c.P l (fun e W' => (e = .returned (.bool true) ∧ SatJ3 c G O I l D r (k + 1) q o W') ∨ (e = .returned (.bool false) ∧ SatX3 c G O Ix l D r q o W'))
theorem endRound_sat3 {c : Cx} {Om : Own} {l D q : Nat} {o : Obj} {r : Loop} {jump : Option Code} {w : World} (hs : Sat c F (Om ++ [(q, o), (l, .loop { r with state := .busy }), deadO D]) w) :
    ∃ w', (Instr.endRound l jump).run P w = .ok (.bool jump.isNone) w' ∧ Sat c F (Om ++ [(q, o), (l, .loop { r with state := if jump.isNone then .ready else .done, pending := jump }), deadO D]) w' := by
  have hm : (l, Obj.loop { r with state := .busy }) ∈ Om ++ [(q, o), (l, .loop { r with state := .busy }), deadO D] := List.mem_append_right _ (List.mem_cons_of_mem _ List.mem_cons_self)
  have hl := hs.own _ hm
  have hu : Upd l (.loop { r with state := .busy }) (.loop { r with state := if jump.isNone then .ready else .done, pending := jump }) (Om ++ [(q, o), (l, .loop { r with state := .busy }), deadO D]) (Om ++ [(q, o), (l, .loop { r with state := if jump.isNone then .ready else .done, pending := jump }), deadO D]) := .app (.tail .head)
  exact ⟨_, run_endRound (P := P) jump hl, hs.upd hu⟩
theorem round_next3 {σ : Type} {c c' : Cx} {G : σ → Know} {O : σ → Own} {I : Nat → σ → Prop} {Ix : Code → σ → Prop} {l D q : Nat} {o : Obj} {r : Loop} {k : Nat} (s : σ) (hr : r.state = .ready ∧ r.pending = none) (hI : I (k + 1) s) (hGs : Incl (G s) F) (hs : (O s ++ [(q, o), (l, .loop { r with state := .busy }), deadO D]).Sublist own) (h1 : c.w0 = c'.w0) (h2 : c.S = c'.S) : TK c' env F own (RQ3 c G O I Ix l D r k q o .normal) := by
  intro a w hh
  obtain ⟨w', g1, g2⟩ := endRound_sat3 (P := c.P) (jump := none) (((hh.sat.sub hs).ch h1 h2).less hGs)
  have e : ({ r with state := if (none : Option Code).isNone then .ready else .done, pending := none } : Loop) = r := by
    obtain ⟨e1, e2⟩ := hr
    cases r
    simp only at e1 e2
    subst e1; subst e2; rfl
  rw [e] at g2
  exact ⟨_, w', g1, .inl ⟨rfl, s, hI, g2⟩⟩
theorem Sat.beside {c : Cx} {own : Own} {q : Nat} {W W' : World} (h : Sat c F own W) (hq : c.w0.heap.size ≤ q ∨ q ∈ c.S) (hn : q ∉ idsO own) (hF : ∀ a u, F a = some u → a.block ≠ q) (hk : Keep [q] W W') : Sat c F own W' := by
  refine ⟨⟨hk.os.trans h.keep.os, hk.tape.trans h.keep.tape, hk.output.trans h.keep.output, Nat.le_trans h.keep.size hk.size, fun b hb hs => ?_⟩, fun a v ha => ?_, h.away, h.nodup, h.ids, fun x hx => ?_⟩
  · have hne : b ∉ [q] := fun hm => by
      rw [List.mem_singleton] at hm
      subst hm
      rcases hq with h1 | h1
      · omega
      · exact hs h1
    exact (hk.old b (Nat.lt_of_lt_of_le hb h.keep.size) hne).trans (h.keep.old b hb hs)
  · exact hk.cell (h.know a v ha) fun hm => hF a v ha (by simpa using hm)
  · exact hk.block (h.own x hx) fun hm => hn (by rw [List.mem_singleton] at hm; rw [← hm]; exact List.mem_map_of_mem hx)
theorem Sat.unq {c : Cx} {Om : Own} {q : Nat} {o : Obj} {R : Own} {W : World} (h : Sat c F (Om ++ (q, o) :: R) W) : Sat c F (Om ++ R) W ∧ q ∉ idsO (Om ++ R) ∧ (∀ a u, F a = some u → a.block ≠ q) ∧ (c.w0.heap.size ≤ q ∨ q ∈ c.S) ∧ W.heap[q]? = some o := by
  have hm : (q, o) ∈ Om ++ (q, o) :: R := List.mem_append_right _ List.mem_cons_self
  refine ⟨h.sub ((List.sublist_cons_self _ _).append_left _), ?_, fun a u ha e => h.away a u ha (by rw [e]; exact List.mem_map_of_mem (f := (·.1)) hm), h.ids _ hm, h.own _ hm⟩
  have hn := h.nodup
  rw [List.map_append, List.map_cons, List.nodup_append, List.nodup_cons] at hn
  show q ∉ (Om ++ R).map (·.1)
  rw [List.map_append, List.mem_append]
  rintro (h1 | h1)
  · exact hn.2.2 q h1 q List.mem_cons_self rfl
  · exact hn.2.1.1 h1
theorem Sat.inq {c : Cx} {Om : Own} {q : Nat} {o : Obj} {R : Own} {W : World} (h : Sat c F (Om ++ R) W) (hn : q ∉ idsO (Om ++ R)) (hF : ∀ a u, F a = some u → a.block ≠ q) (hq : c.w0.heap.size ≤ q ∨ q ∈ c.S) (ho : W.heap[q]? = some o) : Sat c F (Om ++ (q, o) :: R) W := by
  refine Sat.perm (own := (q, o) :: (Om ++ R)) ⟨h.keep, h.know, fun a v ha hm => ?_, ?_, fun x hx => ?_, fun x hx => ?_⟩ List.perm_middle.symm
  · rcases List.mem_cons.1 (show a.block ∈ q :: (Om ++ R).map (·.1) from hm) with h1 | h1
    · exact hF a v ha h1
    · exact h.away a v ha h1
  · exact List.nodup_cons.2 ⟨hn, h.nodup⟩
  · rcases List.mem_cons.1 hx with rfl | h1
    · exact hq
    · exact h.ids x h1
  · rcases List.mem_cons.1 hx with rfl | h1
    · exact ho
    · exact h.own x h1
theorem t_rangeF3 {S : List Nat} {df : List Deferred} {g : Operand} {ps : List Tmp} {assign body : Code} {gf : FuncId} {caps : List Value} {xs : List (List Value)} {σ : Type} (O : σ → Own) (G : σ → Know) (I : Nat → σ → Prop) (Ix : Code → σ → Prop) (s0 : σ) (X : Nat → List Value) {q : Nat} {o0 : Obj} {See : Nat → Know → Prop} {env0 : Env}
    (hg : Env.ev env g = some (.func (.func gf) #[] caps.toArray)) (hb : HasBody P gf) (hG : Gives3 P gf caps q o0 xs See) (hX : ∀ k (hk : k < xs.length), xs[k] = X k) (hps : ∀ k, (X k).length = ps.length) (hpn : ps.all (fun p => Nat.blt p n) = true)
    (h0 : I 0 s0) (hG0 : Incl (G s0) F) (he : Env.sub env0 env) (ho : (O s0 ++ [(q, o0)]).Sublist own)
    (hsee : ∀ k s W, I k s → (∀ a u, G s a = some u → butq q W a = some u) → (∀ p cs T, (p, Obj.cells cs T (0, 0)) ∈ O s → ∀ j u, cs[j]? = some u → butq q W ⟨p, j, none⟩ = some u) → See k (butq q W))
    (round : ∀ (W : World) (S' : List Nat) (l D : Nat) (r : Loop) (k : Nat) (s : σ) (o : Obj), r.state = .ready ∧ r.pending = none → k < xs.length → w0.heap.size ≤ W.heap.size → I k s →
      T ⟨P, n, W, S', some l, []⟩ (zipE ps (X k) env0) (G s) (O s ++ [(q, o), (l, .loop r), deadO D]) assign (Exit.then (Begin P l body (RQ3 ⟨P, n, W, S', none, []⟩ G O I Ix l D r k q o)) (fun _ _ _ => False)))
    (done : ∀ (D : Nat) (s : σ), I xs.length s → TK ⟨P, n, w0, S, none, markD D :: df⟩ env0 (G s) (O s ++ [deadO D]) (Q .normal))
    (stop : ∀ (D : Nat) (jump : Code) (s : σ), Ix jump s → T ⟨P, n, w0, S, none, markD D :: df⟩ env0 (G s) (O s ++ [deadO D]) jump Q) :
    T ⟨P, n, w0, S, none, df⟩ env F own (.rangeFunc g ps.toArray assign body) Q := by
  intro a w hd
  have hd0 := hd.drop he ho
  refine wpIn_rangeFunc fun fn _ => ?_
  obtain ⟨rr, hrr⟩ : ∃ rr : Loop, rr = { state := .ready, pending := none, fn, tmps := a.tmps, params := ps.toArray, assign, body, defers := w.heap.size } := ⟨_, rfl⟩
  have hst : rr.state = .ready ∧ rr.pending = none := by rw [hrr]; exact ⟨rfl, rfl⟩
  obtain ⟨w1, hw1⟩ : ∃ w1, (w.alloc (.deferred (some []))).alloc (.loop rr) = w1 := ⟨_, rfl⟩
  have hs1 : Sat ⟨P, n, w0, S, none, []⟩ (G s0) (O s0 ++ (q, o0) :: [(w.heap.size + 1, .loop rr), deadO w.heap.size]) w1 := by
    have g1 := ((hd0.sat.less hG0).addN (.deferred (some []))).addN (.loop rr)
    rw [hw1, World.size_alloc] at g1
    refine (g1.perm ?_).ch rfl rfl
    have h2 := (List.perm_append_comm (l₁ := [(w.heap.size + 1, Obj.loop rr), deadO w.heap.size]) (l₂ := O s0 ++ [(q, o0)]))
    simpa using h2
  obtain ⟨hs1u, hs1n, hs1F, hs1q, hs1o⟩ := hs1.unq
  have hcl : Calls P gf (yieldV (w.heap.size + 1) :: caps).toArray w1 fun e w' => ∃ v, e = .returned v ∧ ∃ ids' : List Nat, ((∃ s, I xs.length s ∧ Sat ⟨P, n, w0, S, none, []⟩ (G s) (O s ++ [(w.heap.size + 1, .loop rr), deadO w.heap.size]) w') ∨ (∃ jump s, Ix jump s ∧ Sat ⟨P, n, w0, S, none, []⟩ (G s) (O s ++ [(w.heap.size + 1, .loop { rr with state := .done, pending := some jump }), deadO w.heap.size]) w')) := by
    have hcall := hG (w.heap.size + 1)
      (fun k ids W => ∃ s, I k s ∧ Sat ⟨P, n, w0, S, none, []⟩ (G s) (O s ++ [(w.heap.size + 1, .loop rr), deadO w.heap.size]) W ∧ ids = idsO (O s ++ [(w.heap.size + 1, .loop rr), deadO w.heap.size]) ∧ q ∉ ids ∧ (∀ a u, G s a = some u → a.block ≠ q))
      (fun _ W => ∃ jump s, Ix jump s ∧ Sat ⟨P, n, w0, S, none, []⟩ (G s) (O s ++ [(w.heap.size + 1, .loop { rr with state := .done, pending := some jump }), deadO w.heap.size]) W ∧ q ∉ idsO (O s ++ [(w.heap.size + 1, .loop { rr with state := .done, pending := some jump }), deadO w.heap.size]) ∧ (∀ a u, G s a = some u → a.block ≠ q)) w1 _ ⟨?_, ?_, ?_, ?_, ?_⟩ ⟨s0, h0, hs1u, rfl, hs1n, hs1F⟩ hs1o
    · refine hcall.mono fun e w' ⟨v, he, ids', hor⟩ => ⟨v, he, ids', ?_⟩
      rcases hor with ⟨s, h1, h2, _⟩ | ⟨j, s, h1, h2, _⟩
      · exact .inl ⟨s, h1, h2⟩
      · exact .inr ⟨j, s, h1, h2⟩
    · rintro k ids W W' ⟨s, hI, hs, e, hn, hF⟩ hk; exact ⟨s, hI, hs.beside hs1q (e ▸ hn) hF hk, e, hn, hF⟩
    · rintro ids W W' ⟨j, s, hI, hs, hn, hF⟩ hk; exact ⟨j, s, hI, hs.beside hs1q hn hF hk, hn, hF⟩
    · rintro k ids W ⟨s, hI, hs, e, hn, hF⟩
      refine hsee k s W hI (fun a u ha => ?_) fun p cs T hm j u hu => ?_
      · unfold butq; rw [if_neg (hF a u ha)]; exact hs.know a u ha
      · have hne : p ≠ q := fun e2 => hn (by rw [e, ← e2]; exact List.mem_map_of_mem (f := (·.1)) (List.mem_append_left _ hm))
        have hp := hs.own _ (List.mem_append_left _ hm)
        unfold butq; rw [if_neg hne]
        simp only at hp
        simp [World.cell?, hp, hu]
    · rintro k ids W ⟨s, hI, hs, e, hn, hF⟩; exact hn
    · rintro k hk ids W o ⟨s, hI, hs, rfl, hnq, hFq⟩ hoq
      have hm : (w.heap.size + 1, Obj.loop rr) ∈ O s ++ [(w.heap.size + 1, .loop rr), deadO w.heap.size] := List.mem_append_right _ List.mem_cons_self
      have hl := hs.own _ hm
      have hxs : xs[k].length = ps.length := by rw [hX k hk]; exact hps k
      have hpp : rr.params = ps.toArray := by rw [hrr]
      have hy := run_yield (P := P) (args := xs[k].toArray) hl (by rw [hpp, List.size_toArray, List.size_toArray, hxs])
      have ez : (rr.params.zip xs[k].toArray).foldl (fun tmps (x : Tmp × Value) => tmps.setIfInBounds x.1 x.2) rr.tmps = (ps.zip (X k)).foldl (fun t (x : Tmp × Value) => t.setIfInBounds x.1 x.2) a.tmps := by
        have e2 : rr.tmps = a.tmps := by rw [hrr]
        rw [hpp, hX k hk, e2]; simp
      rw [ez] at hy
      refine ⟨_, _, _, _, hy, ?_⟩
      have hfull : Sat ⟨P, n, w0, S, none, []⟩ (G s) (O s ++ (q, o) :: [(w.heap.size + 1, .loop rr), deadO w.heap.size]) W := hs.inq hnq hFq hs1q hoq
      have hs2 : Sat ⟨P, n, W, idsO (O s ++ (q, o) :: [(w.heap.size + 1, .loop rr), deadO w.heap.size]), some (w.heap.size + 1), []⟩ (G s) (O s ++ (q, o) :: [(w.heap.size + 1, .loop rr), deadO w.heap.size]) W :=
        ⟨Keep.refl _ _, hfull.know, hfull.away, hfull.nodup, fun x hx => .inr (List.mem_map_of_mem hx), hfull.own⟩
      have hT := round W _ _ w.heap.size rr k s o hst hk hs.keep.size hI _ W ⟨zipE_ok (n := n) (df' := []) ps (X k) env0 a hpn hd0.env, hs2⟩
      have ea : rr.assign = assign := by rw [hrr]
      have eb : rr.body = body := by rw [hrr]
      rw [ea, eb]
      refine roundIn_of_wpIn (F := FR none) trivial ?_
      have hkeep : ∀ (W' : World) (o' : Obj), o' = o → Keep (idsO (O s ++ (q, o) :: [(w.heap.size + 1, .loop rr), deadO w.heap.size])) W W' → W'.heap[q]? = some o' → Keep (idsO (O s ++ [(w.heap.size + 1, .loop rr), deadO w.heap.size])) W W' := fun W' o' ho' hk hq' => by
        subst ho'
        refine ⟨hk.os, hk.tape, hk.output, hk.size, fun b hb hns => ?_⟩
        by_cases e : b = q
        · rw [e, hq', hoq]
        · refine hk.old b hb fun hm => hns ?_
          simp only [idsO, List.map_append, List.map_cons, List.mem_append, List.mem_cons] at hm ⊢
          rcases hm with h1 | h1 | h1
          · exact .inl h1
          · exact absurd h1 e
          · exact .inr h1
      have hback : ∀ e W', ((e = Ending.returned (.bool true) ∧ SatJ3 ⟨P, n, W, idsO (O s ++ (q, o) :: [(w.heap.size + 1, .loop rr), deadO w.heap.size]), none, []⟩ G O I (w.heap.size + 1) w.heap.size rr (k + 1) q o W') ∨ (e = .returned (.bool false) ∧ SatX3 ⟨P, n, W, idsO (O s ++ (q, o) :: [(w.heap.size + 1, .loop rr), deadO w.heap.size]), none, []⟩ G O Ix (w.heap.size + 1) w.heap.size rr q o W')) →
          ((e = Ending.returned (.bool true) ∧ ∃ ids' : List Nat, (∃ s', I (k + 1) s' ∧ Sat ⟨P, n, w0, S, none, []⟩ (G s') (O s' ++ [(w.heap.size + 1, .loop rr), deadO w.heap.size]) W' ∧ ids' = idsO (O s' ++ [(w.heap.size + 1, .loop rr), deadO w.heap.size]) ∧ q ∉ ids' ∧ (∀ a u, G s' a = some u → a.block ≠ q)) ∧ Keep (idsO (O s ++ [(w.heap.size + 1, .loop rr), deadO w.heap.size])) W W') ∨
           (e = .returned (.bool false) ∧ ∃ ids' : List Nat, (∃ jump s, Ix jump s ∧ Sat ⟨P, n, w0, S, none, []⟩ (G s) (O s ++ [(w.heap.size + 1, .loop { rr with state := .done, pending := some jump }), deadO w.heap.size]) W' ∧ q ∉ idsO (O s ++ [(w.heap.size + 1, .loop { rr with state := .done, pending := some jump }), deadO w.heap.size]) ∧ (∀ a u, G s a = some u → a.block ≠ q)) ∧ Keep (idsO (O s ++ [(w.heap.size + 1, .loop rr), deadO w.heap.size])) W W')) := by
        rintro e W' (⟨rfl, s', hI', hs'⟩ | ⟨rfl, j, s', hI', hs'⟩)
        · have hb2 := hfull.back hs' rfl rfl
          obtain ⟨g1, g2, g3, _, g5⟩ := hb2.unq
          exact .inl ⟨rfl, _, ⟨s', hI', g1, rfl, g2, g3⟩, hkeep W' o rfl hs'.keep g5⟩
        · have hb2 := hfull.back hs' rfl rfl
          obtain ⟨g1, g2, g3, _, g5⟩ := hb2.unq
          exact .inr ⟨rfl, [], ⟨j, s', hI', g1, g2, g3⟩, hkeep W' o rfl hs'.keep g5⟩
      have hmono := wpIn_mono hT (Q' := Exit.then (Begin P (w.heap.size + 1) body (roundPost P (w.heap.size + 1) fun e W' => (e = Ending.returned (.bool true) ∧ ∃ ids' : List Nat, (∃ s', I (k + 1) s' ∧ Sat ⟨P, n, w0, S, none, []⟩ (G s') (O s' ++ [(w.heap.size + 1, .loop rr), deadO w.heap.size]) W' ∧ ids' = idsO (O s' ++ [(w.heap.size + 1, .loop rr), deadO w.heap.size]) ∧ q ∉ ids' ∧ (∀ a u, G s' a = some u → a.block ≠ q)) ∧ Keep (idsO (O s ++ [(w.heap.size + 1, .loop rr), deadO w.heap.size])) W W') ∨
           (e = .returned (.bool false) ∧ ∃ ids' : List Nat, (∃ jump s, Ix jump s ∧ Sat ⟨P, n, w0, S, none, []⟩ (G s) (O s ++ [(w.heap.size + 1, .loop { rr with state := .done, pending := some jump }), deadO w.heap.size]) W' ∧ q ∉ idsO (O s ++ [(w.heap.size + 1, .loop { rr with state := .done, pending := some jump }), deadO w.heap.size]) ∧ (∀ a u, G s a = some u → a.block ≠ q)) ∧ Keep (idsO (O s ++ [(w.heap.size + 1, .loop rr), deadO w.heap.size])) W W'))) (fun _ _ _ => False)) (fun e a2 W2 hq => by
        cases e <;> simp only [Exit.then] at hq ⊢
        case normal =>
          obtain ⟨w2, g1, g2⟩ := hq
          refine ⟨w2, g1, wpIn_mono g2 fun e2 a3 W3 hq2 => ?_⟩
          exact roundPost_mono hback hq2)
      rw [ea, eb] at hmono
      exact hmono
  refine ⟨w.heap.size + 1, [markD w.heap.size], w1, { target := .fn (.func gf) caps.toArray, args := #[yieldV (w.heap.size + 1)] }, w1, gf, (yieldV (w.heap.size + 1) :: caps).toArray, w1, ?_, ?_, fun _ _ => trivial, ?_, FR_dep, calls_FR (hcl.mono ?_)⟩
  · rw [← hw1, hrr]; exact run_enterLoop_outer _ _ _ _ _
  · have := run_resolve_func (P := P) (w := w1) (ρ := a.eval) (x := g) (args := #[.const (yieldV (w.heap.size + 1))]) (ts := #[]) (t := 0) (hd.env.eval hg)
    simpa [Act.eval] using this
  · simp only [invoke, hb.call]
    simp
  · rintro e w2 ⟨v, rfl, _, ⟨s, hI, hs⟩ | ⟨jump, s, hI, hs⟩⟩
    · have hm : (w.heap.size + 1, Obj.loop rr) ∈ O s ++ [(w.heap.size + 1, .loop rr), deadO w.heap.size] := List.mem_append_right _ List.mem_cons_self
      have hu : Upd (w.heap.size + 1) (.loop rr) (.loop { rr with state := .exhausted, pending := none }) (O s ++ [(w.heap.size + 1, .loop rr), deadO w.heap.size]) (O s ++ [(w.heap.size + 1, .loop { rr with state := .exhausted, pending := none }), deadO w.heap.size]) := .app .head
      refine ⟨none, _, by have := run_endLoop (P := P) (hs.own _ hm) (by rw [hst.1]; simp); rw [hst.2] at this; exact this, ?_⟩
      refine done w.heap.size s hI _ _ ⟨⟨hd0.env.size, by simp [hd0.env.defers], hd0.env.get⟩, ?_⟩
      exact ((hs.upd hu).sub ((List.sublist_cons_self _ _).append_left _)).ch rfl rfl
    · have hm : (w.heap.size + 1, Obj.loop { rr with state := .done, pending := some jump }) ∈ O s ++ [(w.heap.size + 1, .loop { rr with state := .done, pending := some jump }), deadO w.heap.size] := List.mem_append_right _ List.mem_cons_self
      have hu : Upd (w.heap.size + 1) (.loop { rr with state := .done, pending := some jump }) (.loop { rr with state := .exhausted, pending := some jump }) (O s ++ [(w.heap.size + 1, .loop { rr with state := .done, pending := some jump }), deadO w.heap.size]) (O s ++ [(w.heap.size + 1, .loop { rr with state := .exhausted, pending := some jump }), deadO w.heap.size]) := .app .head
      refine ⟨some jump, _, by have := run_endLoop (P := P) (hs.own _ hm) (by simp); exact this, ?_⟩
      refine stop w.heap.size jump s hI _ _ ⟨⟨hd0.env.size, by simp [hd0.env.defers], hd0.env.get⟩, ?_⟩
      exact ((hs.upd hu).sub ((List.sublist_cons_self _ _).append_left _)).ch rfl rfl
end
end Go.Eng
