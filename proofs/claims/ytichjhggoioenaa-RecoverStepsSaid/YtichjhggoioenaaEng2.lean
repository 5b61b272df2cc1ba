/-
  The engine, part 2: what is known of the slots and of memory, and the walk over code.
-/
import Derived.Test.YtichjhggoioenaaEng1
namespace Go.Eng
open Go

abbrev Env := List (Nat × Value)

def Env.get : List (Nat × Value) → Nat → Option Value
  | [], _ => none
  | (d, v) :: r, t => bif Nat.beq d t then some v else Env.get r t

def Env.ev (env : List (Nat × Value)) : Operand → Option Value
  | .tmp t => Env.get env t
  | .const v => some v
  | .global g => some (.pointer (some ⟨g, 0, none⟩))
  | .func f => some (.func (.func f) #[] #[])

structure EnvOk (n : Nat) (df : List Deferred) (env : Env) (a : Act) : Prop where
  size : a.tmps.size = n
  defers : a.defers = df
  get : ∀ t v, Env.get env t = some v → a.tmps.getD t undef = v

theorem EnvOk.eval {n : Nat} {df : List Deferred} {env : Env} {a : Act} (h : EnvOk n df env a) {x : Operand} {v : Value} (hx : Env.ev env x = some v) : a.eval x = v := by
  cases x <;> simp only [Env.ev, Option.some.injEq] at hx <;> simp only [Act.eval]
  case tmp t => exact h.get t v hx
  all_goals exact hx

theorem EnvOk.put {n : Nat} {df : List Deferred} {env : Env} {a : Act} (h : EnvOk n df env a) {d : Nat} (hd : d < n) (v : Value) : EnvOk n df ((d, v) :: env) (a.put (some d) v) := by
  refine ⟨by simp [Act.put, h.size], by simp [Act.put, h.defers], fun t u hu => ?_⟩
  simp only [Env.get] at hu
  simp only [Act.put]
  cases hb : Nat.beq d t with
  | true =>
    have : d = t := Nat.eq_of_beq_eq_true hb
    subst this
    simp only [hb, cond_true, Option.some.injEq] at hu
    subst hu
    have : d < a.tmps.size := by rw [h.size]; exact hd
    simp [this]
  | false =>
    have hne : d ≠ t := fun e => by rw [e] at hb; simp at hb
    simp only [hb, cond_false] at hu
    have := h.get t u hu
    simpa [Array.getElem?_setIfInBounds_ne hne] using this

theorem EnvOk.putNone {n : Nat} {df : List Deferred} {env : Env} {a : Act} (h : EnvOk n df env a) (v : Value) : EnvOk n df env (a.put none v) := h

theorem EnvOk.forget {n : Nat} {df : List Deferred} {env env' : Env} {a : Act} (h : EnvOk n df env a) (hs : ∀ t v, Env.get env' t = some v → Env.get env t = some v) : EnvOk n df env' a :=
  ⟨h.size, h.defers, fun t v ht => h.get t v (hs t v ht)⟩

/-- Each entry of the one is what the other says. -/
def Env.sub : List (Nat × Value) → List (Nat × Value) → Prop
  | [], _ => True
  | (t, v) :: r, env => Env.get env t = some v ∧ Env.sub r env

theorem Env.sub_get {env' env : Env} (h : Env.sub env' env) : ∀ t v, Env.get env' t = some v → Env.get env t = some v := by
  induction env' with
  | nil => intro t v ht; cases ht
  | cons x r ih =>
    obtain ⟨d, u⟩ := x
    intro t v ht
    simp only [Env.get] at ht
    cases hb : Nat.beq d t with
    | true =>
      have : d = t := Nat.eq_of_beq_eq_true hb
      subst this
      simp only [hb, cond_true, Option.some.injEq] at ht
      subst ht
      exact h.1
    | false =>
      simp only [hb, cond_false] at ht
      exact ih h.2 t v ht

theorem getD_bool {tmps : Array Value} {t : Nat} {b : Bool} (h : tmps.getD t undef = .bool b) : tmps[t]? = some (.bool b) := by
  rcases Nat.lt_or_ge t tmps.size with h' | h'
  · simp [h'] at h ⊢; exact h
  · simp [Array.getElem?_eq_none h', undef] at h

/-! ### Memory -/

abbrev Know := Addr → Option Value
abbrev Own := List (Nat × Obj)

structure Cx where
  P : Program
  n : Nat
  w0 : World
  S : List Nat
  ro : Option Nat
  df : List Deferred

structure Sat (c : Cx) (F : Know) (own : Own) (w : World) : Prop where
  keep : Keep c.S c.w0 w
  know : ∀ a v, F a = some v → w.cell? a = some v
  away : ∀ a v, F a = some v → a.block ∉ own.map (·.1)
  nodup : (own.map (·.1)).Nodup
  ids : ∀ x ∈ own, c.w0.heap.size ≤ x.1 ∨ x.1 ∈ c.S
  own : ∀ x ∈ own, w.heap[x.1]? = some x.2

theorem Sat.keep' {c : Cx} {F : Know} {own : Own} {w w' : World} (h : Sat c F own w) (k : Keep [] w w') : Sat c F own w' :=
  ⟨h.keep.trans (k.mono fun _ h => by cases h), fun a v ha => k.cell (h.know a v ha) (by simp), h.away, h.nodup, h.ids, fun x hx => k.block (h.own x hx) (by simp)⟩

/-- New blocks join what is one's own. -/
theorem Sat.join {c : Cx} {F : Know} {own : Own} {n0 : Nat} {w1 : World} {L : News} (h1 : Sat c F own w1) (hown : ∀ x ∈ own, x.1 < n0) (hF : ∀ a v, F a = some v → a.block < n0) (hc : c.w0.heap.size ≤ n0) (hn : (L.map (·.1)).Nodup) (hL : ∀ x ∈ L, n0 ≤ x.1 ∧ w1.heap[x.1]? = some x.2) : Sat c F (L ++ own) w1 := by
  refine ⟨h1.keep, h1.know, fun a v ha hm => ?_, ?_, fun x hx => ?_, fun x hx => ?_⟩
  · rw [List.map_append, List.mem_append] at hm
    rcases hm with hm | hm
    · obtain ⟨x, hx, he⟩ := List.mem_map.1 hm
      have := hF a v ha
      have := (hL x hx).1
      omega
    · exact h1.away a v ha hm
  · rw [List.map_append, List.nodup_append]
    refine ⟨hn, h1.nodup, fun i hi j hj => ?_⟩
    obtain ⟨x, hx, rfl⟩ := List.mem_map.1 hi
    obtain ⟨y, hy, rfl⟩ := List.mem_map.1 hj
    have := (hL x hx).1
    have := hown y hy
    omega
  · rcases List.mem_append.1 hx with hx | hx
    · have := (hL x hx).1
      exact .inl (by omega)
    · exact h1.ids x hx
  · rcases List.mem_append.1 hx with hx | hx
    · exact (hL x hx).2
    · exact h1.own x hx
theorem Sat.ownlt {c : Cx} {F : Know} {own : Own} {w : World} (h : Sat c F own w) : ∀ x ∈ own, x.1 < w.heap.size := fun x hx => heap_lt (h.own x hx)
theorem Sat.knowlt {c : Cx} {F : Know} {own : Own} {w : World} (h : Sat c F own w) : ∀ a v, F a = some v → a.block < w.heap.size := fun a v ha => cell_lt (h.know a v ha)

structure Hd (c : Cx) (env : Env) (F : Know) (own : Own) (a : Act) (w : World) : Prop where
  env : EnvOk c.n c.df env a
  sat : Sat c F own w

/-- In every state that fits, K holds. -/
def TK (c : Cx) (env : Env) (F : Know) (own : Own) (K : Act → World → Prop) : Prop := ∀ a w, Hd c env F own a w → K a w

abbrev T (c : Cx) (env : Env) (F : Know) (own : Own) (code : Code) (Q : Exit → Act → World → Prop) : Prop := TK c env F own (code.wpIn (FR c.ro) 0 c.P Q)

section
variable {c : Cx} {env : Env} {F : Know} {own : Own} {Q : Exit → Act → World → Prop}

theorem t_forget {K : Act → World → Prop} (env' : Env) (hs : Env.sub env' env) (h : TK c env' F own K) : TK c env F own K :=
  fun a w hd => h a w ⟨hd.env.forget (Env.sub_get hs), hd.sat⟩

theorem t_seq {x y : Code} (h : T c env F own x (Exit.then (y.wpIn (FR c.ro) 0 c.P Q) Q)) : T c env F own (.seq x y) Q := fun a w hd => wpIn_seq (h a w hd)
theorem t_skip (h : TK c env F own (Q .normal)) : T c env F own .skip Q := fun a w hd => wpIn_skip (h a w hd)
theorem t_exit {id : Nat} (h : TK c env F own (Q (.exit id))) : T c env F own (.exit id) Q := fun a w hd => wpIn_exit (h a w hd)
theorem t_ret (h : TK c env F own (Q .ret)) : T c env F own .ret Q := fun a w hd => wpIn_ret (h a w hd)
theorem t_block {id : Nat} {x : Code} (h : T c env F own x (Exit.inBlock id Q)) : T c env F own (.block id x) Q := fun a w hd => wpIn_block (h a w hd)
theorem t_cond {o : Operand} {x y : Code} {b : Bool} (ho : Env.ev env o = some (.bool b)) (ht : b = true → T c env F own x Q) (hf : b = false → T c env F own y Q) : T c env F own (.cond o x y) Q := by
  intro a w hd
  refine wpIn_cond (hd.env.eval ho) ?_
  cases b
  · exact hf rfl a w hd
  · exact ht rfl a w hd
theorem t_condT {o : Operand} {x y : Code} (ho : Env.ev env o = some (.bool true)) (ht : T c env F own x Q) : T c env F own (.cond o x y) Q :=
  t_cond ho (fun _ => ht) (fun h => by cases h)
theorem t_condF {o : Operand} {x y : Code} (ho : Env.ev env o = some (.bool false)) (hf : T c env F own y Q) : T c env F own (.cond o x y) Q :=
  t_cond ho (fun h => by cases h) (fun _ => hf)

/-- A loop: a family of states, each with a measure; a round leads from a state to one of smaller measure. -/
theorem t_loop {x : Code} {σ : Type} (E : σ → Env) (G : σ → Know) (O : σ → Own) (μ : σ → Nat) (I : σ → Prop) (s0 : σ) (h0 : I s0) (hstart : ∀ a w, Hd c env F own a w → Hd c (E s0) (G s0) (O s0) a w)
    (round : ∀ s, I s → T c (E s) (G s) (O s) x (Exit.then (fun a w => ∃ s', I s' ∧ μ s' < μ s ∧ Hd c (E s') (G s') (O s') a w) Q)) : T c env F own (.loop x) Q := by
  intro a w hd b k cs hro hb hr
  have key : ∀ n (s : σ) a w, μ s = n → I s → Hd c (E s) (G s) (O s) a w →
      ∃ e a' w', Q e a' w' ∧ ArrivesIn (Machine.fenced c.P (FR c.ro)) c.P (lone (b.atR a (.code x :: .inLoop x :: k)) cs w) b k cs e a' w' := by
    intro n
    induction n using Nat.strongRecOn with
    | _ n ih =>
      intro s a w hn hI hd
      obtain ⟨e, a₁, w₁, hq, harr⟩ := round s hI a w hd b (.inLoop x :: k) cs hro hb hr
      cases e with
      | normal =>
        obtain ⟨s', hI₁, hlt, hd₁⟩ := hq
        obtain ⟨e₂, a₂, w₂, hq₂, harr₂⟩ := ih (μ s') (hn ▸ hlt) s' a₁ w₁ rfl hI₁ hd₁
        exact ⟨e₂, a₂, w₂, hq₂, .of_steps (StepsIn.trans harr (.one (fenced_calm hb hr rfl) stepR_inLoop)) harr₂⟩
      | exit id => exact ⟨_, a₁, w₁, hq, .pass (x := .inLoop x) rfl (fun _ _ => .inl (by simp)) harr⟩
      | goto l => exact ⟨_, a₁, w₁, hq, .pass (x := .inLoop x) rfl (fun _ _ => .inl (by simp)) harr⟩
      | ret => exact ⟨_, a₁, w₁, hq, .pass (x := .inLoop x) rfl (fun _ _ => .inl (by simp)) harr⟩
      | panic ch => exact ⟨_, a₁, w₁, hq, .pass (x := .inLoop x) rfl (fun _ _ => .inl (by simp)) harr⟩
      | outgrown => exact ⟨_, a₁, w₁, hq, .pass (x := .inLoop x) rfl (fun _ _ => .inl (by simp)) harr⟩
  obtain ⟨e, a', w', hq, harr⟩ := key _ s0 a w rfl h0 (hstart a w hd)
  exact ⟨e, a', w', hq, .of_steps (.one (fenced_calm hb hr rfl) stepR_loop) harr⟩

/-! ### Regions -/

/-- What is left of a region from operation k on. -/
def RestOf (ro : Option Nat) (draw : Bool) (P : Program) (ops : Array Oper) (Q : Exit → Act → World → Prop) (k : Nat) (a : Act) (w : World) : Prop :=
  match draw with
  | true => wpAnyIn (FR ro) 0 P .any ops Q (ops.size - k) (lk ops.size k) a w
  | false => wpOpsIn (FR ro) 0 P ops Q (List.range' k (ops.size - k)) a w

abbrev R (c : Cx) (draw : Bool) (ops : Array Oper) (Q : Exit → Act → World → Prop) (k : Nat) (env : Env) (F : Know) (own : Own) : Prop := TK c env F own (RestOf c.ro draw c.P ops Q k)

theorem r_start {id : Nat} {ops : Array Oper} (h : R c false ops Q 0 env F own) : T c env F own (.region id ops false) Q :=
  fun a w hd => wpIn_region (by rw [List.range_eq_range']; exact h a w hd)

theorem r_startD {id : Nat} {ops : Array Oper} (hm : c.P.follows .mixedOrders = true) (h : R c true ops Q 0 env F own) : T c env F own (.region id ops true) Q :=
  fun a w hd => wpIn_region_any hm (by
    rw [lk_zero]
    exact h a _ ⟨hd.env, hd.sat.keep' ⟨rfl, rfl, rfl, Nat.le_refl _, fun _ _ _ => rfl⟩⟩)

theorem r_end {draw : Bool} {ops : Array Oper} {k : Nat} (hk : k = ops.size) (h : TK c env F own (Q .normal)) : R c draw ops Q k env F own := by
  subst hk
  intro a w hd
  cases draw with
  | false => simp only [RestOf, Nat.sub_self, List.range'_zero, wpOpsIn]; exact h a w hd
  | true =>
    simp only [RestOf, Nat.sub_self, wpAnyIn]
    refine ⟨?_, h a w hd⟩
    unfold Region.ready
    rw [List.filter_eq_nil_iff]
    intro i hi
    rw [List.mem_range] at hi
    rw [lk_get true hi]
    simp [hi]

/-- Only operation k may come up. -/
def aloneB (ops : Array Oper) (k : Nat) : Bool := Region.ready .any ops (lk ops.size k) == [k]

theorem r_one {draw : Bool} {ops : Array Oper} {k : Nat} (hk : k < ops.size) (hB : draw = true → aloneB ops k = true)
    (h : TK c env F own (wpOpIn (FR c.ro) 0 c.P ops Q k (RestOf c.ro draw c.P ops Q (k + 1)))) : R c draw ops Q k env F own := by
  intro a w hd
  have e1 : ops.size - k = (ops.size - (k + 1)) + 1 := by omega
  cases draw with
  | false =>
    simp only [RestOf]
    rw [e1, List.range'_succ, wpOpsIn_cons]
    exact h a w hd
  | true =>
    have hr : Region.ready .any ops (lk ops.size k) = [k] := by have := hB rfl; simpa [aloneB] using this
    simp only [RestOf]
    rw [e1]
    refine ⟨fun h0 => (by rw [hr] at h0; cases h0), fun i hi => ?_⟩
    rw [hr, List.mem_singleton] at hi
    subst hi
    rw [lk_step]
    exact h a w hd

/-- What an operation gives, whatever else: in every state that fits, one value; memory is as it was. -/
def Det (c : Cx) (F : Know) (own : Own) (env : Env) (o : Oper) (v : Value) : Prop :=
  ∀ a, EnvOk c.n c.df env a → ∀ w, Sat c F own w → detUpon c.P w v ((execOp a.eval o).run c.P w)

/-- It makes one block. -/
def New (c : Cx) (F : Know) (own : Own) (env : Env) (o : Oper) (V : Nat → Value → Obj → Prop) : Prop :=
  ∀ a, EnvOk c.n c.df env a → ∀ w, Sat c F own w → ∃ v w' ob, (execOp a.eval o).run c.P w = .ok (.value v) w' ∧ Grew w w' (some ob) ∧ V w.heap.size v ob

def putEnv (env : Env) (d : Option Tmp) (v : Value) : Env := match d with | some d => (d, v) :: env | none => env

theorem EnvOk.put' {n : Nat} {df : List Deferred} {env : Env} {a : Act} (h : EnvOk n df env a) {d : Option Tmp} (hd : d.all (fun d => Nat.blt d n) = true) (v : Value) : EnvOk n df (putEnv env d v) (a.put d v) := by
  cases d with
  | none => exact h
  | some d => exact h.put (by simpa [Nat.blt_eq] using hd) v

/-- The guard says yes, by what is known. -/
def wantedB (ops : Array Oper) (env : Env) (o : Oper) : Prop :=
  match o.guard with
  | none => True
  | some (j, b) => ∃ t, (ops[j]?).bind (·.dst) = some t ∧ Env.get env t = some (.bool b)

theorem wanted_of {n : Nat} {df : List Deferred} {ops : Array Oper} {env : Env} {o : Oper} {a : Act} (hd : EnvOk n df env a) (h : wantedB ops env o) : Region.wanted o (yielded ops a.tmps) = true := by
  unfold wantedB at h
  unfold Region.wanted
  split at h
  · rename_i hg; rw [hg]
  · rename_i j b hg
    obtain ⟨t, ht, hv⟩ := h
    rw [hg]
    simp [yielded, ht, getD_bool (hd.get t _ hv)]

def unwantedB (ops : Array Oper) (env : Env) (o : Oper) : Prop :=
  match o.guard with
  | none => False
  | some (j, b) => ∃ t, (ops[j]?).bind (·.dst) = some t ∧ (Env.get env t = some (.bool (!b)) ∨ Env.get env t = some undef)

theorem unwanted_of {n : Nat} {df : List Deferred} {ops : Array Oper} {env : Env} {o : Oper} {a : Act} (hd : EnvOk n df env a) (h : unwantedB ops env o) : Region.wanted o (yielded ops a.tmps) = false := by
  unfold unwantedB at h
  unfold Region.wanted
  split at h
  · exact h.elim
  · rename_i j b hg
    obtain ⟨t, ht, hv⟩ := h
    rw [hg]
    rcases hv with hv | hv
    · simp only [yielded, ht, Option.bind_some, getD_bool (hd.get t _ hv)]
      cases b <;> rfl
    · have := hd.get t _ hv
      simp only [yielded, ht, Option.bind_some]
      rcases Nat.lt_or_ge t a.tmps.size with h' | h'
      · simp [h'] at this ⊢; simp [this, undef]
      · simp [Array.getElem?_eq_none h']

theorem upon_det {c : Cx} {o : Oper} {a : Act} {w : World} {v : Value} {K : Act → World → Prop} {Q : Exit → Act → World → Prop} (hD : detUpon c.P w v ((execOp a.eval o).run c.P w))
    (h : ∀ w', Keep [] w w' → K (a.put o.dst v) w') : o.wpIn (FR c.ro) 0 c.P a w K Q := by
  refine ⟨fun _ _ => trivial, ?_⟩
  rw [semAt_run hD.not]
  generalize (execOp a.eval o).run c.P w = res at *
  cases res with
  | halt x w' => simp only [detUpon] at hD
  | ok nx w' =>
    cases nx <;> simp only [detUpon] at hD <;> simp only [Oper.uponIn]
    case value u => obtain ⟨rfl, rfl⟩ := hD; exact h _ (Keep.refl _ _)
    case skip => obtain ⟨rfl, rfl⟩ := hD; exact h _ (Keep.refl _ _)
    case enter f args =>
      obtain ⟨rfl, _, hc⟩ := hD
      exact ⟨FR_dep, calls_FR (hc.mono fun e w'' ⟨he, hkp⟩ => by subst he; exact h _ hkp)⟩

/-- One operation, in the region's order. -/
theorem r_det {draw : Bool} {ops : Array Oper} {k : Nat} {o : Oper} {v : Value} (ho : ops[k]? = some o) (hB : draw = true → aloneB ops k = true) (hd : o.dst.all (fun d => Nat.blt d c.n) = true)
    (hw : wantedB ops env o) (hD : Det c F own env o v) (h : R c draw ops Q (k + 1) (putEnv env o.dst v) F own) : R c draw ops Q k env F own := by
  refine r_one (Array.getElem?_eq_some_iff.1 ho).1 hB fun a w hh => ?_
  unfold wpOpIn
  simp only [ho, wanted_of hh.env hw, if_true]
  exact (upon_det (hD a hh.env w hh.sat) fun w' hk => h _ _ ⟨hh.env.put' hd v, hh.sat.keep' hk⟩)

theorem r_no {draw : Bool} {ops : Array Oper} {k : Nat} {o : Oper} (ho : ops[k]? = some o) (hB : draw = true → aloneB ops k = true) (hd : o.dst.all (fun d => Nat.blt d c.n) = true)
    (hw : unwantedB ops env o) (h : R c draw ops Q (k + 1) (putEnv env o.dst undef) F own) : R c draw ops Q k env F own := by
  refine r_one (Array.getElem?_eq_some_iff.1 ho).1 hB fun a w hh => ?_
  unfold wpOpIn
  simp only [ho, unwanted_of hh.env hw, Bool.false_eq_true, if_false]
  refine ⟨fun _ _ => trivial, ?_⟩
  exact h _ _ ⟨hh.env.put' hd undef, hh.sat⟩

theorem r_new {draw : Bool} {ops : Array Oper} {k : Nat} {o : Oper} {V : Nat → Value → Obj → Prop} (ho : ops[k]? = some o) (hB : draw = true → aloneB ops k = true) (hd : o.dst.all (fun d => Nat.blt d c.n) = true)
    (hw : wantedB ops env o) (hN : New c F own env o V) (h : ∀ p v ob, V p v ob → R c draw ops Q (k + 1) (putEnv env o.dst v) F ((p, ob) :: own)) : R c draw ops Q k env F own := by
  refine r_one (Array.getElem?_eq_some_iff.1 ho).1 hB fun a w hh => ?_
  unfold wpOpIn
  simp only [ho, wanted_of hh.env hw, if_true]
  obtain ⟨v, w', ob, hr, hg, hV⟩ := hN a hh.env w hh.sat
  refine ⟨fun _ _ => trivial, ?_⟩
  rw [semAt_run (by rw [hr]; trivial), hr]
  have hs := (hh.sat.keep' hg.keep).join (L := [(w.heap.size, ob)]) hh.sat.ownlt hh.sat.knowlt hh.sat.keep.size (by simp) (fun x hx => by
    rw [List.mem_singleton] at hx; subst hx; exact ⟨Nat.le_refl _, hg.new⟩)
  exact h _ _ _ hV _ _ ⟨hh.env.put' hd v, hs⟩

/-! #### A stretch of a region that draws its order -/

def objCell (a : Addr) : Obj → Option Value
  | .cells cs _ _ => if a.spot.isSome then none else cs[a.off]?
  | _ => none
theorem cell_objCell {w : World} {a : Addr} {ob : Obj} (h : w.heap[a.block]? = some ob) : w.cell? a = objCell a ob := by
  unfold World.cell? objCell
  rw [h]
  cases ob <;> rfl

/-- All that is in memory, apart from what is one's own. -/
noncomputable def seeK (own : Own) (w : World) : Know := fun a => if a.block ∈ own.map (·.1) then none else w.cell? a

theorem Sat.see {w : World} (h : Sat c F own w) : Sat c (seeK own w) own w ∧ ∀ a u, F a = some u → seeK own w a = some u := by
  refine ⟨⟨h.keep, fun a v ha => ?_, fun a v ha => ?_, h.nodup, h.ids, h.own⟩, fun a u ha => ?_⟩
  · unfold seeK at ha; split at ha
    · cases ha
    · exact ha
  · unfold seeK at ha; split at ha
    · cases ha
    · rename_i hn; exact hn
  · unfold seeK
    rw [if_neg (h.away a u ha)]
    exact h.know a u ha

abbrev Incl (F F' : Know) : Prop := ∀ a u, F a = some u → F' a = some u
/-- What is known anew lies in new blocks. -/
abbrev Fresh (c : Cx) (F F' : Know) : Prop := ∀ a u, F' a = some u → F a = some u ∨ c.w0.heap.size ≤ a.block
/-- What was known, and all that is new since there were n0 blocks, apart from what is one's own. -/
noncomputable def newK (F : Know) (own : Own) (n0 : Nat) (w : World) : Know := fun a => if a.block ∈ own.map (·.1) then none else if n0 ≤ a.block then w.cell? a else F a
theorem Sat.news {w : World} (h : Sat c F own w) (n0 : Nat) (hn : c.w0.heap.size ≤ n0) : Sat c (newK F own n0 w) own w ∧ Incl F (newK F own n0 w) ∧ Fresh c F (newK F own n0 w) ∧ ∀ a u, n0 ≤ a.block → a.block ∉ own.map (·.1) → w.cell? a = some u → newK F own n0 w a = some u := by
  refine ⟨⟨h.keep, fun a v ha => ?_, fun a v ha => ?_, h.nodup, h.ids, h.own⟩, fun a u ha => ?_, fun a u ha => ?_, fun a u h1 h2 h3 => ?_⟩
  · unfold newK at ha; split at ha
    · cases ha
    · split at ha
      · exact ha
      · exact h.know a v ha
  · unfold newK at ha; split at ha
    · cases ha
    · rename_i hn; exact hn
  · unfold newK
    rw [if_neg (h.away a u ha)]
    split
    · exact h.know a u ha
    · exact ha
  · unfold newK at ha; split at ha
    · cases ha
    · split at ha
      · rename_i h1; exact .inr (Nat.le_trans hn h1)
      · exact .inl ha
  · unfold newK
    rw [if_neg h2, if_pos h1, h3]

/-- What an operation of a stretch has left: a block that stays one's own; or a fact on memory. -/
inductive Item where
  | own (t : Option Tmp) (p : Nat) (ob : Obj)
  | fact (t : Option Tmp) (φ : Know → Prop)
def Item.tag : Item → Option Tmp
  | .own t _ _ => t
  | .fact t _ => t
def Item.holds (F' : Know) : Item → Prop
  | .own _ p ob => ∀ a u, a.block = p → objCell a ob = some u → F' a = some u
  | .fact _ φ => φ F'
def KnowsL (nb : News) (F' : Know) : Prop := ∀ x ∈ nb, ∀ a u, a.block = x.1 → objCell a x.2 = some u → F' a = some u

inductive Real (F : Know) : List Item → TNews → Prop
  | nil : Real F [] []
  | own {t : Option Tmp} {p : Nat} {ob : Obj} {N : List Item} {L : TNews} : Real F N L → Real F (.own t p ob :: N) ((t, (p, ob)) :: L)
  | fact {t : Option Tmp} {φ : Know → Prop} {nb : News} {N : List Item} {L : TNews} : Real F N L → (∀ F', Incl F F' → KnowsL nb F' → φ F') → Real F (.fact t φ :: N) (tagL t nb ++ L)

def ownsI : List Item → Own
  | [] => []
  | .own _ p ob :: N => (p, ob) :: ownsI N
  | .fact _ _ :: N => ownsI N
def factsI (F' : Know) : List Item → Prop
  | [] => True
  | .own _ _ _ :: N => factsI F' N
  | .fact _ φ :: N => φ F' ∧ factsI F' N

theorem Real.owns {N : List Item} {L : TNews} (h : Real F N L) : (ownsI N).Sublist (L.map (·.2)) := by
  induction h with
  | nil => exact .slnil
  | own _ ih => exact ih.cons_cons _
  | fact _ _ ih => rw [List.map_append]; exact ih.trans (List.sublist_append_right _ _)

/-- What an item says holds in a world that has what its slot's operation made. -/
theorem Real.holds {N : List Item} {L : TNews} (h : Real F N L) {F' : Know} (hF : Incl F F') {p : Option Tmp → Bool} (hL : ∀ x ∈ L, p x.1 = true → ∀ a u, a.block = x.2.1 → objCell a x.2.2 = some u → F' a = some u) :
    ∀ it ∈ N, p it.tag = true → it.holds F' := by
  induction h with
  | nil => intro it hi; cases hi
  | @own t q ob N L _ ih =>
    intro it hi hp
    rcases List.mem_cons.1 hi with rfl | hi
    · exact hL _ List.mem_cons_self hp
    · exact ih (fun x hx => hL x (List.mem_cons_of_mem _ hx)) it hi hp
  | @fact t φ nb N L _ hφ ih =>
    intro it hi hp
    rcases List.mem_cons.1 hi with rfl | hi
    · refine hφ F' hF fun x hx a u ha hu => hL (t, x) (List.mem_append_left _ (List.mem_map_of_mem hx)) hp a u ha hu
    · exact ih (fun x hx => hL x (List.mem_append_right _ hx)) it hi hp

def kindOf (ns : List Nat) (ms : List (Nat × (Value → News → Prop))) (i : Nat) : Kind :=
  if ns.contains i then .new else match ms.lookup i with | some φ => .mem φ | none => .det

/-- What is told ahead of a call that makes memory. -/
def Told (F : Know) (R : Value → Know → Prop) (v : Value) (nb : News) : Prop := (∃ F', R v F') ∧ ∀ F', Incl F F' → KnowsL nb F' → R v F'

abbrev CW (c : Cx) (F : Know) (own : Own) (n0 : Nat) (w : World) : Prop := Sat c F own w ∧ n0 ≤ w.heap.size

def Zfin (c : Cx) (F : Know) (own : Own) (n0 : Nat) (Z : Env → List Item → Prop) (a' : Act) (L' : TNews) : Prop :=
  Prem (CW c F own n0) n0 L' → ∃ env' N' L'', SubP L'' L' ∧ Real F N' L'' ∧ EnvOk c.n c.df env' a' ∧ Z env' N'
theorem Zfin_inv {n0 : Nat} {Z : Env → List Item → Prop} : Inv (CW c F own n0) n0 (Zfin c F own n0 Z) :=
  ⟨fun a L L' hs h hp => by
    obtain ⟨env', N', L'', h1, h2⟩ := h (hp.sub hs)
    exact ⟨env', N', L'', h1.trans hs, h2⟩, fun a L h hp => h hp hp⟩

/-- What is left to walk of a stretch. -/
def SG (c : Cx) (ops : Array Oper) (F : Know) (own : Own) (kd : Nat → Kind) (Z : Env → List Item → Prop) (l : List Nat) (env : Env) (N : List Item) : Prop :=
  (∀ i ∈ l, ∃ o, ops[i]? = some o) → ∀ n0 a L, (∀ x ∈ own, x.1 < n0) → EnvOk c.n c.df env a → Real F N L → wpG c.P ops (CW c F own n0) n0 kd (Zfin c F own n0 Z) l a L

theorem sg_nil {ops : Array Oper} {kd : Nat → Kind} {Z : Env → List Item → Prop} {N : List Item} (h : Z env N) : SG c ops F own kd Z [] env N :=
  fun _ _ _ L _ he hr _ => ⟨env, N, L, .refl _, hr, he, h⟩

/-- What may be used of the items: those of the slots that the operation looks at. -/
abbrev Needs (ops : Array Oper) (o : Oper) (N ns : List Item) : Prop := ∀ it ∈ ns, it ∈ N ∧ it.tag.any (fun t => (o.looksAt ops).contains t) = true

theorem needs_hold {ops : Array Oper} {o : Oper} {N ns : List Item} {L : TNews} {n0 : Nat} {w : World} (hr : Real F N L) (hn : Needs ops o N ns) (hlt : ∀ x ∈ own, x.1 < n0) (hw : CL ops (CW c F own n0) n0 o L w) : ∀ it ∈ ns, it.holds (seeK own w) := by
  intro it hi
  obtain ⟨h1, h2⟩ := hn it hi
  refine hr.holds hw.1.1.see.2 (p := fun t => t.any fun t => (o.looksAt ops).contains t) (fun x hx hp a u ha hu => ?_) it h1 h2
  have hm : x ∈ restr ops o L := List.mem_filter.2 ⟨hx, hp⟩
  obtain ⟨g1, g2⟩ := hw.2.at_ x hm
  unfold seeK
  rw [if_neg, cell_objCell (by rw [ha]; exact g2), hu]
  intro hm
  obtain ⟨y, hy, he⟩ := List.mem_map.1 hm
  have := hlt y hy
  omega

theorem need0 {ops : Array Oper} {o : Oper} {N : List Item} : Needs ops o N [] := fun _ h => by cases h
theorem need1 {ops : Array Oper} {o : Oper} {N : List Item} {a : Item} (h : a ∈ N) (ht : a.tag.any (fun t => (o.looksAt ops).contains t) = true) : Needs ops o N [a] := fun it hi => by
  rw [List.mem_singleton] at hi; subst hi; exact ⟨h, ht⟩
theorem needC {ops : Array Oper} {o : Oper} {N ns : List Item} {a : Item} (h : a ∈ N) (ht : a.tag.any (fun t => (o.looksAt ops).contains t) = true) (hn : Needs ops o N ns) : Needs ops o N (a :: ns) := fun it hi => by
  rcases List.mem_cons.1 hi with rfl | hi
  · exact ⟨h, ht⟩
  · exact hn it hi
theorem holdsK {F' : Know} {t : Option Tmp} {p : Nat} {cs : List Value} {T : TypeId} {fr : Nat × Nat} (h : (Item.own t p (.cells cs.toArray T fr)).holds F') : ∀ k u, cs[k]? = some u → F' ⟨p, k, none⟩ = some u :=
  fun k u hu => h ⟨p, k, none⟩ u rfl (by simpa [objCell] using hu)

theorem sg_detN {ops : Array Oper} {kd : Nat → Kind} {Z : Env → List Item → Prop} {N : List Item} (ns : List Item) {i : Nat} {l : List Nat} {o : Oper} {v : Value} (ho : ops[i]? = some o) (hd : o.dst.all (fun d => Nat.blt d c.n) = true)
    (hw : wantedB ops env o) (hk : kd i = .det) (hn : Needs ops o N ns) (hD : ∀ F', Incl F F' → (∀ it ∈ ns, it.holds F') → Det c F' own env o v) (h : SG c ops F own kd Z l (putEnv env o.dst v) N) : SG c ops F own kd Z (i :: l) env N := by
  intro hin n0 a L hlt he hr
  have hin' : ∀ j ∈ l, ∃ o, ops[j]? = some o := fun j hj => hin j (List.mem_cons_of_mem _ hj)
  refine ⟨o, ho, fun hp => ?_⟩
  simp only [wanted_of he hw, if_true, hk]
  refine ⟨fun u _ => u = v, ⟨v, fun w hC => ?_, fun u nb => Iff.rfl⟩, ?_⟩
  · exact hD _ hC.1.1.see.2 (needs_hold hr hn hlt hC) a he w hC.1.1.see.1
  · rintro u nb rfl
    exact (wpG_inv Zfin_inv l hin').sub _ _ _ (.ofSub (List.sublist_append_right _ _)) (h hin' n0 _ L hlt (he.put' hd u) hr)

theorem Det.incl {F' : Know} {o : Oper} {v : Value} (h : Det c F own env o v) (hF : Incl F F') : Det c F' own env o v := fun a he w hs =>
  h a he w ⟨hs.keep, fun a v ha => hs.know a v (hF a v ha), fun a v ha => hs.away a v (hF a v ha), hs.nodup, hs.ids, hs.own⟩
theorem New.incl {F' : Know} {o : Oper} {V : Nat → Value → Obj → Prop} (h : New c F own env o V) (hF : Incl F F') : New c F' own env o V := fun a he w hs =>
  h a he w ⟨hs.keep, fun a v ha => hs.know a v (hF a v ha), fun a v ha => hs.away a v (hF a v ha), hs.nodup, hs.ids, hs.own⟩

theorem sg_det {ops : Array Oper} {kd : Nat → Kind} {Z : Env → List Item → Prop} {N : List Item} {i : Nat} {l : List Nat} {o : Oper} {v : Value} (ho : ops[i]? = some o) (hd : o.dst.all (fun d => Nat.blt d c.n) = true)
    (hw : wantedB ops env o) (hk : kd i = .det) (hD : Det c F own env o v) (h : SG c ops F own kd Z l (putEnv env o.dst v) N) : SG c ops F own kd Z (i :: l) env N :=
  sg_detN [] ho hd hw hk (fun _ h => by cases h) (fun _ hF _ => hD.incl hF) h

theorem sg_no {ops : Array Oper} {kd : Nat → Kind} {Z : Env → List Item → Prop} {N : List Item} {i : Nat} {l : List Nat} {o : Oper} (ho : ops[i]? = some o) (hd : o.dst.all (fun d => Nat.blt d c.n) = true)
    (hw : unwantedB ops env o) (h : SG c ops F own kd Z l (putEnv env o.dst undef) N) : SG c ops F own kd Z (i :: l) env N := by
  intro hin n0 a L hlt he hr
  refine ⟨o, ho, fun hp => ?_⟩
  simp only [unwanted_of he hw, Bool.false_eq_true, if_false]
  exact h (fun j hj => hin j (List.mem_cons_of_mem _ hj)) n0 _ L hlt (he.put' hd undef) hr

theorem sg_newN {ops : Array Oper} {kd : Nat → Kind} {Z : Env → List Item → Prop} {N : List Item} (ns : List Item) {i : Nat} {l : List Nat} {o : Oper} {V : Nat → Value → Obj → Prop} (ho : ops[i]? = some o) (hd : o.dst.all (fun d => Nat.blt d c.n) = true)
    (hw : wantedB ops env o) (hk : kd i = .new) (hn : Needs ops o N ns) (hN : ∀ F', Incl F F' → (∀ it ∈ ns, it.holds F') → New c F' own env o V) (h : ∀ p v ob, V p v ob → SG c ops F own kd Z l (putEnv env o.dst v) (.own o.dst p ob :: N)) : SG c ops F own kd Z (i :: l) env N := by
  intro hin n0 a L hlt he hr
  have hin' : ∀ j ∈ l, ∃ o, ops[j]? = some o := fun j hj => hin j (List.mem_cons_of_mem _ hj)
  refine ⟨o, ho, fun hp => ?_⟩
  simp only [wanted_of he hw, if_true, hk]
  refine ⟨fun v nb => ∃ p ob, nb = [(p, ob)] ∧ V p v ob, fun w hC => ?_, ?_⟩
  · obtain ⟨v, w', ob, hr1, hg, hV⟩ := hN _ hC.1.1.see.2 (needs_hold hr hn hlt hC) a he w hC.1.1.see.1
    exact ⟨v, w', hr1, hg.keep, _, ob, newsOf_one hg, hV⟩
  · rintro v nb ⟨p, ob, rfl, hV⟩
    exact h p v ob hV hin' n0 _ _ hlt (he.put' hd v) (.own hr)

theorem sg_new {ops : Array Oper} {kd : Nat → Kind} {Z : Env → List Item → Prop} {N : List Item} {i : Nat} {l : List Nat} {o : Oper} {V : Nat → Value → Obj → Prop} (ho : ops[i]? = some o) (hd : o.dst.all (fun d => Nat.blt d c.n) = true)
    (hw : wantedB ops env o) (hk : kd i = .new) (hN : New c F own env o V) (h : ∀ p v ob, V p v ob → SG c ops F own kd Z l (putEnv env o.dst v) (.own o.dst p ob :: N)) : SG c ops F own kd Z (i :: l) env N :=
  sg_newN [] ho hd hw hk (fun _ h => by cases h) (fun _ hF _ => hN.incl hF) h

/-- An operation that makes memory in whatever way. -/
def Mem (c : Cx) (F0 F : Know) (own : Own) (env : Env) (o : Oper) (Rl : Value → Know → Prop) : Prop :=
  ∀ a, EnvOk c.n c.df env a → ∀ w, Sat c F own w → memUpon c.P w (Told F0 Rl) ((execOp a.eval o).run c.P w)

theorem sg_memN {ops : Array Oper} {kd : Nat → Kind} {Z : Env → List Item → Prop} {N : List Item} (ns : List Item) {i : Nat} {l : List Nat} {o : Oper} {Rl : Value → Know → Prop} (ho : ops[i]? = some o) (hd : o.dst.all (fun d => Nat.blt d c.n) = true)
    (hw : wantedB ops env o) (hk : kd i = .mem (Told F Rl)) (hn : Needs ops o N ns) (hM : ∀ F', Incl F F' → (∀ it ∈ ns, it.holds F') → Mem c F F' own env o Rl) (h : ∀ v, (∃ F', Rl v F') → SG c ops F own kd Z l (putEnv env o.dst v) (.fact o.dst (fun F' => Rl v F') :: N)) : SG c ops F own kd Z (i :: l) env N := by
  intro hin n0 a L hlt he hr
  have hin' : ∀ j ∈ l, ∃ o, ops[j]? = some o := fun j hj => hin j (List.mem_cons_of_mem _ hj)
  refine ⟨o, ho, fun hp => ?_⟩
  simp only [wanted_of he hw, if_true, hk]
  refine ⟨Told F Rl, ⟨fun u nb => Iff.rfl, fun w hC => ?_⟩, ?_⟩
  · exact hM _ hC.1.1.see.2 (needs_hold hr hn hlt hC) a he w hC.1.1.see.1
  · intro v nb hv
    exact h v hv.1 hin' n0 _ _ hlt (he.put' hd v) (.fact hr hv.2)

theorem nodup_range_length : ∀ (m k : Nat) (l : List Nat), l.Nodup → (∀ j ∈ l, k ≤ j ∧ j < m) → l.length ≤ m - k := by
  intro m
  induction m with
  | zero => intro k l _ h; cases l with | nil => simp | cons x l => have := (h x List.mem_cons_self).2; omega
  | succ m ih =>
    intro k l hl h
    by_cases hm : m ∈ l
    · have h1 := ih k (l.erase m) (hl.erase m) (fun j hj => by
        have h2 := (List.Nodup.mem_erase_iff hl).1 hj
        have h3 := h j h2.2
        exact ⟨h3.1, by have := h2.1; omega⟩)
      have h2 := List.length_erase_of_mem hm
      have h3 := (h m hm).1
      have h4 : 0 < l.length := List.length_pos_of_mem hm
      omega
    · have h1 := ih k l hl (fun j hj => by
        have h3 := h j hj
        exact ⟨h3.1, by have : j ≠ m := fun e => hm (e ▸ hj); omega⟩)
      omega

theorem few_lk {n m k : Nat} (hm : m ≤ n) : Few m (lk n k) (m - k) := by
  intro l hl h
  refine nodup_range_length m k l hl fun j hj => ?_
  obtain ⟨h1, h2⟩ := h j hj
  rw [lk_get true (by omega)] at h2
  simp only [decide_eq_false_iff_not, Nat.not_lt] at h2
  exact ⟨h2, h1⟩

def segB (ops : Array Oper) (f k m : Nat) (l : List Nat) : Bool :=
  decide (k ≤ m) && decide (m ≤ ops.size) && (l.length == m - k) && Region.noSelect ops && dnB .any ops k && barB .any ops f m && lexG .any ops m l (lk ops.size k)

/-- The operations from k up to m, in the order l. -/
theorem r_segZ {ops : Array Oper} {k : Nat} (f m : Nat) (kd : Nat → Kind) (l : List Nat) {Z : Env → List Item → Prop} (hB : segB ops f k m l = true)
    (hZ : ∀ env' N', Z env' N' → ∀ n0 a w L'', Sat c F own w → (∀ x ∈ own, x.1 < n0) → (∀ a v, F a = some v → a.block < n0) → c.w0.heap.size ≤ n0 → HoldsL n0 L'' w → Real F N' L'' → EnvOk c.n c.df env' a → RestOf c.ro true c.P ops Q m a w)
    (h : SG c ops F own kd Z l env []) : R c true ops Q k env F own := by
  simp only [segB, Bool.and_eq_true, decide_eq_true_eq, beq_iff_eq] at hB
  obtain ⟨⟨⟨⟨⟨⟨hkm, hm⟩, hlen⟩, hsel⟩, hdn⟩, hbar⟩, hlex⟩ := hB
  intro a w hd
  · have e1 : ops.size - k = (m - k) + (ops.size - m) := by omega
    simp only [RestOf]
    rw [e1]
    have hC : ∀ w1 w2, CW c F own w.heap.size w1 → Keep [] w1 w2 → CW c F own w.heap.size w2 := fun w1 w2 h1 hk => ⟨h1.1.keep' hk, Nat.le_trans h1.2 hk.size⟩
    have hn : ∀ w1, CW c F own w.heap.size w1 → w.heap.size ≤ w1.heap.size := fun w1 h1 => h1.2
    refine wpAny_of_G (kd := kd) (n0 := w.heap.size) (C := CW c F own w.heap.size) hbar hm hC hn
      (Z := Zfin c F own w.heap.size Z) ?_ (m - k) (lk ops.size k) a [] w (lk_size _ _) (dnB_spec hdn) (fun i hi hin => ?_) (few_lk hm) ⟨hd.sat, Nat.le_refl _⟩ (HoldsL.nil _ _) ?_
    · intro a' L' w' hC' hL hz
      obtain ⟨env', N', L'', hs, hr, he, hZ'⟩ := hz ⟨w', hC', hL⟩
      exact hZ env' N' hZ' w.heap.size a' w' L'' hC'.1 hd.sat.ownlt hd.sat.knowlt hd.sat.keep.size (hL.sub hs) hr he
    · rw [lk_get true hin]; simp; omega
    · rw [← hlen]
      exact wpAnyG_lex hC hn Zfin_inv hsel l _ a [] (by rw [hlen]; exact few_lk hm) hlex (h (lexG_in l _ hlex) w.heap.size a [] hd.sat.ownlt hd.env .nil)

theorem join_real {N : List Item} {L : TNews} {n0 : Nat} {w : World} (hs : Sat c F own w) (h1 : ∀ x ∈ own, x.1 < n0) (h2 : ∀ a v, F a = some v → a.block < n0) (h3 : c.w0.heap.size ≤ n0) (hL : HoldsL n0 L w) (hr : Real F N L) : Sat c F (ownsI N ++ own) w := by
  have ho := hr.owns
  refine hs.join h1 h2 h3 ?_ fun x hx => ?_
  · have := hL.nodup
    rw [show L.map (·.2.1) = (L.map (·.2)).map (·.1) by simp] at this
    exact (ho.map _).nodup this
  · obtain ⟨y, hy, rfl⟩ := List.mem_map.1 (ho.subset hx)
    exact hL.at_ y hy

/-- .. where nothing is left but blocks of one's own: the knowledge stays. -/
theorem r_seg {ops : Array Oper} {k : Nat} (f m : Nat) (ns : List Nat) (l : List Nat) (hB : segB ops f k m l = true)
    (h : SG c ops F own (kindOf ns []) (fun env' N' => R c true ops Q m env' F (ownsI N' ++ own)) l env []) : R c true ops Q k env F own :=
  r_segZ f m _ l hB (fun _ _ hZ _ a w _ hs h1 h2 h3 hL hr he => hZ a w ⟨he, join_real hs h1 h2 h3 hL hr⟩) h

/-- The facts that are left hold of all that is in memory. -/
theorem facts_real {N : List Item} {L : TNews} {n0 : Nat} {w : World} (hr : Real F N L) : HoldsL n0 L w → ∀ (F' : Know), Incl F F' → (∀ a u, n0 ≤ a.block → a.block ∈ L.map (·.2.1) → a.block ∉ (ownsI N).map (·.1) → w.cell? a = some u → F' a = some u) → factsI F' N := by
  induction hr with
  | nil => intro _ _ _ _; trivial
  | @own t p ob N L hr ih =>
    intro hL F' hF hc
    have hL' : HoldsL n0 L w := hL.sub (.ofSub (List.sublist_cons_self _ _))
    refine ih hL' F' hF fun a u h1 h2 h3 h4 => hc a u h1 (List.mem_cons_of_mem _ h2) ?_ h4
    intro hm
    simp only [ownsI, List.map_cons] at hm
    rcases List.mem_cons.1 hm with e | hm
    · have := hL.nodup
      simp only [List.map_cons, List.nodup_cons] at this
      exact this.1 (e ▸ h2)
    · exact h3 hm
  | @fact t φ nb N L hr hφ ih =>
    intro hL F' hF hc
    have hL' : HoldsL n0 L w := hL.sub (.ofSub (List.sublist_append_right _ _))
    refine ⟨hφ F' hF fun x hx a u ha hu => ?_, ih hL' F' hF fun a u h1 h2 h3 h4 => hc a u h1 (by rw [List.map_append]; exact List.mem_append_right _ h2) h3 h4⟩
    have hx' : (t, x) ∈ tagL t nb ++ L := List.mem_append_left _ (List.mem_map_of_mem hx)
    obtain ⟨g1, g2⟩ := hL.at_ _ hx'
    refine hc a u (by rw [ha]; exact g1) (by rw [ha]; exact List.mem_map_of_mem (f := (·.2.1)) hx') ?_ (by rw [cell_objCell (by rw [ha]; exact g2), hu])
    intro hm
    have hs : a.block ∈ L.map (·.2.1) := by
      have := (hr.owns.map (·.1)).subset hm
      simpa using this
    have hn := hL.nodup
    rw [List.map_append, List.nodup_append] at hn
    have h5 : x.1 ∈ (tagL t nb).map (·.2.1) := by
      rw [tagL, List.map_map]; exact List.mem_map_of_mem (f := fun y : Nat × Obj => y.1) hx
    exact hn.2.2 x.1 h5 a.block hs ha.symm

/-- .. where facts on memory are left too: the knowledge grows. -/
theorem r_segF {ops : Array Oper} {k : Nat} (f m : Nat) (ns : List Nat) (ms : List (Nat × (Value → News → Prop))) (l : List Nat) (hB : segB ops f k m l = true)
    (h : SG c ops F own (kindOf ns ms) (fun env' N' => ∀ F', Incl F F' → Fresh c F F' → factsI F' N' → R c true ops Q m env' F' (ownsI N' ++ own)) l env []) : R c true ops Q k env F own :=
  r_segZ f m _ l hB (fun env' N' hZ n0 a w L'' hs h1 h2 h3 hL hr he => by
    have hj := join_real hs h1 h2 h3 hL hr
    obtain ⟨k1, k2, k3, k4⟩ := hj.news n0 (Nat.le_trans h3 (Nat.le_refl _))
    refine hZ _ k2 k3 (facts_real hr hL _ k2 fun a u g1 g2 g3 g4 => k4 a u g1 ?_ g4) a w ⟨he, k1⟩
    intro hm
    rw [List.map_append] at hm
    rcases List.mem_append.1 hm with hm | hm
    · exact g3 hm
    · obtain ⟨x, hx, e⟩ := List.mem_map.1 hm
      have := h1 x hx
      omega) h

end
end Go.Eng
