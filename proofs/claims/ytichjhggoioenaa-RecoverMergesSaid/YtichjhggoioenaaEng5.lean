/-
  The engine, part 5: the same rules in the shape in which they are applied.
-/
import Derived.Test.YtichjhggoioenaaEng4
import Derived.ScopeJumps
namespace Go.Eng
open Go

section
variable {c : Cx} {env : Env} {F : Know} {own : Own} {Q : Exit → Act → World → Prop}
variable {d : Option Tmp} {ty : TypeId} {ps : String} {af : Array Edge} {g : Option (Nat × Bool)}

def nthO : List Oper → Nat → Option Oper
  | [], _ => none
  | v :: _, 0 => some v
  | _ :: r, n + 1 => nthO r n
theorem nthO_eq (l : List Oper) (n : Nat) : nthO l n = l.toArray[n]? := by
  induction l generalizing n with
  | nil => simp [nthO]
  | cons v r ih => cases n <;> simp [nthO, ih]

/-! ### The exits' wrappers -/
theorem k_then {K : Act → World → Prop} (h : TK c env F own K) : TK c env F own (Exit.then K Q .normal) := h
theorem k_thenE {K : Act → World → Prop} {i : Nat} (h : TK c env F own (Q (.exit i))) : TK c env F own (Exit.then K Q (.exit i)) := h
theorem k_thenR {K : Act → World → Prop} (h : TK c env F own (Q .ret)) : TK c env F own (Exit.then K Q .ret) := h
theorem k_thenG {K : Act → World → Prop} {i : Nat} (h : TK c env F own (Q (.goto i))) : TK c env F own (Exit.then K Q (.goto i)) := h
theorem k_blk {i : Nat} (h : TK c env F own (Q .normal)) : TK c env F own (Exit.inBlock i Q .normal) := h
theorem k_blkR {i : Nat} (h : TK c env F own (Q .ret)) : TK c env F own (Exit.inBlock i Q .ret) := h
theorem k_blkG {i j : Nat} (h : TK c env F own (Q (.goto j))) : TK c env F own (Exit.inBlock i Q (.goto j)) := h
theorem k_blkE {i : Nat} (h : TK c env F own (Q .normal)) : TK c env F own (Exit.inBlock i Q (.exit i)) := by
  intro a w hh
  simp only [Exit.inBlock, if_true]
  exact h a w hh
theorem k_blkN {i j : Nat} (hij : j ≠ i) (h : TK c env F own (Q (.exit j))) : TK c env F own (Exit.inBlock i Q (.exit j)) := by
  intro a w hh
  simp only [Exit.inBlock, hij, if_false]
  exact h a w hh
theorem k_jmp {i : Nat} {J : Act → World → Prop} (h : TK c env F own (Q .normal)) : TK c env F own (Exit.jump i J Q .normal) := h
theorem k_jmpR {i : Nat} {J : Act → World → Prop} (h : TK c env F own (Q .ret)) : TK c env F own (Exit.jump i J Q .ret) := h
theorem k_jmpE {i j : Nat} {J : Act → World → Prop} (h : TK c env F own (Q (.exit j))) : TK c env F own (Exit.jump i J Q (.exit j)) := h
theorem k_jmpG {i : Nat} {J : Act → World → Prop} (h : TK c env F own J) : TK c env F own (Exit.jump i J Q (.goto i)) := fun a w hh => ⟨rfl, h a w hh⟩
theorem k_nog (h : TK c env F own (Q .normal)) : TK c env F own (Exit.noGoto Q .normal) := h
theorem k_nogR (h : TK c env F own (Q .ret)) : TK c env F own (Exit.noGoto Q .ret) := h
theorem k_nogE {j : Nat} (h : TK c env F own (Q (.exit j))) : TK c env F own (Exit.noGoto Q (.exit j)) := h

theorem t_condP {o : Operand} {x y : Code} {b : Bool} {p : Prop} (hp : b = true ↔ p) (ho : Env.ev env o = some (.bool b)) (ht : p → T c env F own x Q) (hf : ¬ p → T c env F own y Q) : T c env F own (.cond o x y) Q :=
  t_cond ho (fun h => ht (hp.1 h)) (fun h => hf (fun h' => by rw [hp.2 h'] at h; cases h))
theorem not_iff_false {b : Bool} : (!b) = true ↔ b = false := by cases b <;> simp

theorem t_label {l : Nat} (h : TK c env F own (Q .normal)) : T c env F own (.label l) Q := fun a w hd => wpIn_label (h a w hd)
theorem t_goto {l : Nat} (h : TK c env F own (Q (.goto l))) : T c env F own (.goto l) Q := fun a w hd => wpIn_goto (h a w hd)
theorem stepR_scope {P : Program} {b : Frame} {a : Act} {k : List Go.Item} {cs : List Frame} {w : World} {x : Code} : step P (lone (b.atR a (.code (.scope x) :: k)) cs w) = .next (lone (b.atR a (.code x :: .inScope x :: k)) cs w) :=
  step_lone_go (by simp [stepG, stepG.exec, Frame.atR])
theorem stepR_inScope {P : Program} {b : Frame} {a : Act} {k : List Go.Item} {cs : List Frame} {w : World} {x : Code} : step P (lone (b.atR a (.inScope x :: k)) cs w) = .next (lone (b.atR a k) cs w) :=
  step_lone_go (by simp [stepG, stepG.exec, Frame.atR])
theorem t_scope0 {x : Code} (h : T c env F own x (Exit.noGoto Q)) : T c env F own (.scope x) Q := by
  intro a w hd b k cs hro hb hr
  obtain ⟨e, a₁, w₁, hq, harr⟩ := h a w hd b (.inScope x :: k) cs hro hb hr
  have f0 : (lone (b.atR a (.code (.scope x) :: k)) cs w).fenced c.P (FR c.ro) := fenced_calm hb hr rfl
  cases e with
  | normal => exact ⟨.normal, a₁, w₁, hq, .head f0 stepR_scope (StepsIn.trans harr (.one (fenced_calm hb hr rfl) stepR_inScope))⟩
  | exit id =>
    have hx : exitTo id (.inScope x :: k) = exitTo id k := by simp [exitTo]
    exact ⟨.exit id, a₁, w₁, hq, fun k' hk => .head f0 stepR_scope (harr.1 k' (by rw [hx]; exact hk)), fun hr' hk => let ⟨k₁, h1, h2⟩ := harr.2 hr' (by rw [hx]; exact hk); ⟨k₁, h1, .head f0 stepR_scope h2⟩⟩
  | goto l => exact hq.elim
  | ret => exact ⟨_, a₁, w₁, hq, .of_steps (.one f0 stepR_scope) harr⟩
  | panic ch => exact ⟨_, a₁, w₁, hq, .of_steps (.one f0 stepR_scope) harr⟩
  | outgrown => exact ⟨_, a₁, w₁, hq, .of_steps (.one f0 stepR_scope) harr⟩

theorem Hd.drop {env env' : Env} {F : Know} {own own' : Own} {a : Act} {w : World} (h : Hd c env F own a w) (he : Env.sub env' env) (ho : own'.Sublist own) : Hd c env' F own' a w := by
  refine ⟨h.env.forget (Env.sub_get he), h.sat.keep, h.sat.know, fun a v ha hm => ?_, ?_, fun x hx => h.sat.ids x (ho.subset hx), fun x hx => h.sat.own x (ho.subset hx)⟩
  · exact h.sat.away a v ha ((ho.map _).subset hm)
  · exact (ho.map _).nodup h.sat.nodup

theorem tk_drop {K : Act → World → Prop} {env' : Env} {own' : Own} (he : Env.sub env' env) (ho : own'.Sublist own) (h : TK c env' F own' K) : TK c env F own K :=
  fun a w hd => h a w (hd.drop he ho)

/-- A loop whose states are told by one family; the knowledge stays. -/
theorem t_while {x : Code} {σ : Type} (E : σ → Env) (O : σ → Own) (μ : σ → Nat) (I : σ → Prop) (s0 : σ) (h0 : I s0) (he : Env.sub (E s0) env) (ho : (O s0).Sublist own)
    (round : ∀ s, I s → T c (E s) F (O s) x (Exit.then (fun a w => ∃ s', I s' ∧ μ s' < μ s ∧ Hd c (E s') F (O s') a w) Q)) : T c env F own (.loop x) Q :=
  t_loop E (fun _ => F) O μ I s0 h0 (fun _ _ hd => hd.drop he ho) round

theorem loop_back {σ : Type} {E : σ → Env} {O : σ → Own} {μ : σ → Nat} {I : σ → Prop} {s : σ} (s' : σ) (h0 : I s') (hm : μ s' < μ s) (he : Env.sub (E s') env) (ho : (O s').Sublist own) :
    TK c env F own (fun a w => ∃ s', I s' ∧ μ s' < μ s ∧ Hd c (E s') F (O s') a w) := fun _ _ hd => ⟨s', h0, hm, hd.drop he ho⟩

/-- A scope in which the run jumps back to a label. -/
theorem t_scope1 {x rest : Code} {l : Nat} {σ : Type} (E : σ → Env) (O : σ → Own) (μ : σ → Nat) (I : σ → Prop) (hf : findLabel x l = some rest)
    (pass : ∀ s, I s → T c (E s) F (O s) rest (Exit.jump l (fun a w => ∃ s', I s' ∧ μ s' < μ s ∧ Hd c (E s') F (O s') a w) Q))
    (first : (∀ s, I s → T c (E s) F (O s) rest (Exit.jump l (fun a w => ∃ s', I s' ∧ Hd c (E s') F (O s') a w) Q)) → T c env F own x (Exit.jump l (fun a w => ∃ s', I s' ∧ Hd c (E s') F (O s') a w) Q)) :
    T c env F own (.scope x) Q := by
  have hp : ∀ s, I s → T c (E s) F (O s) rest (Exit.jump l (fun a w => ∃ s', I s' ∧ Hd c (E s') F (O s') a w) Q) := fun s hI a w hd =>
    wpIn_mono (pass s hI a w hd) fun e a w h => by
      cases e <;> simp only [Exit.jump] at h ⊢
      case goto => obtain ⟨h1, s', h2, _, h3⟩ := h; exact ⟨h1, s', h2, h3⟩
      all_goals exact h
  intro a w hd b k cs hro hb hr
  have f0 : (lone (b.atR a (.code (.scope x) :: k)) cs w).fenced c.P (FR c.ro) := fenced_calm hb hr rfl
  have hg : gotoIn l (.inScope x :: k) = some (.code rest :: .inScope x :: k) := by simp [gotoIn, hf]
  have hx : ∀ id, exitTo id (.inScope x :: k) = exitTo id k := fun id => by simp [exitTo]
  have key : ∀ n (s : σ) a w, μ s = n → I s → Hd c (E s) F (O s) a w → ∃ e a' w', Q e a' w' ∧ ArrivesIn (Machine.fenced c.P (FR c.ro)) c.P (lone (b.atR a (.code rest :: .inScope x :: k)) cs w) b k cs e a' w' := by
    intro n
    induction n using Nat.strongRecOn with
    | _ n ih =>
      intro s a w hn hJ hd
      obtain ⟨e, a₁, w₁, hq, harr⟩ := pass s hJ a w hd b (.inScope x :: k) cs hro hb hr
      cases e with
      | normal => exact ⟨.normal, a₁, w₁, hq, StepsIn.trans harr (.one (fenced_calm hb hr rfl) stepR_inScope)⟩
      | exit id => exact ⟨.exit id, a₁, w₁, hq, fun k' hk => harr.1 k' (by rw [hx]; exact hk), fun hr' hk => harr.2 hr' (by rw [hx]; exact hk)⟩
      | goto l' =>
        obtain ⟨rfl, s', hJ', hlt, hd'⟩ := hq
        obtain ⟨e₂, a₂, w₂, hq₂, harr₂⟩ := ih _ (by omega) s' a₁ w₁ rfl hJ' hd'
        exact ⟨e₂, a₂, w₂, hq₂, .of_steps (harr.1 _ hg) harr₂⟩
      | ret => exact ⟨_, a₁, w₁, hq, harr⟩
      | panic ch => exact ⟨_, a₁, w₁, hq, harr⟩
      | outgrown => exact ⟨_, a₁, w₁, hq, harr⟩
  obtain ⟨e, a₁, w₁, hq, harr⟩ := first hp a w hd b (.inScope x :: k) cs hro hb hr
  cases e with
  | normal => exact ⟨.normal, a₁, w₁, hq, .head f0 stepR_scope (StepsIn.trans harr (.one (fenced_calm hb hr rfl) stepR_inScope))⟩
  | exit id => exact ⟨.exit id, a₁, w₁, hq, fun k' hk => .head f0 stepR_scope (harr.1 k' (by rw [hx]; exact hk)), fun hr' hk => let ⟨k₁, h1, h2⟩ := harr.2 hr' (by rw [hx]; exact hk); ⟨k₁, h1, .head f0 stepR_scope h2⟩⟩
  | goto l' =>
    obtain ⟨rfl, s', hJ', hd'⟩ := hq
    obtain ⟨e₂, a₂, w₂, hq₂, harr₂⟩ := key _ s' a₁ w₁ rfl hJ' hd'
    exact ⟨e₂, a₂, w₂, hq₂, .of_steps (.head f0 stepR_scope (harr.1 _ hg)) harr₂⟩
  | ret => exact ⟨_, a₁, w₁, hq, .of_steps (.one f0 stepR_scope) harr⟩
  | panic ch => exact ⟨_, a₁, w₁, hq, .of_steps (.one f0 stepR_scope) harr⟩
  | outgrown => exact ⟨_, a₁, w₁, hq, .of_steps (.one f0 stepR_scope) harr⟩

/-- The same, where the label's place is read as a skip. -/
theorem t_scope {x rest : Code} {l : Nat} {σ : Type} (E : σ → Env) (O : σ → Own) (μ : σ → Nat) (I : σ → Prop) (hf : findLabel x l = some (.seq .skip rest))
    (pass : ∀ s, I s → T c (E s) F (O s) rest (Exit.jump l (fun a w => ∃ s', I s' ∧ μ s' < μ s ∧ Hd c (E s') F (O s') a w) Q))
    (first : (∀ s, I s → T c (E s) F (O s) rest (Exit.jump l (fun a w => ∃ s', I s' ∧ Hd c (E s') F (O s') a w) Q)) → T c env F own x (Exit.jump l (fun a w => ∃ s', I s' ∧ Hd c (E s') F (O s') a w) Q)) :
    T c env F own (.scope x) Q :=
  t_scope1 E O μ I hf (fun s hI => t_seq (t_skip (pass s hI))) fun _ => first fun s hI a w hd =>
    wpIn_mono (pass s hI a w hd) fun e a w h => by
      cases e <;> simp only [Exit.jump] at h ⊢
      case goto => obtain ⟨h1, s', h2, _, h3⟩ := h; exact ⟨h1, s', h2, h3⟩
      all_goals exact h

theorem goto_back {σ : Type} {E : σ → Env} {O : σ → Own} {μ : σ → Nat} {I : σ → Prop} {s : σ} (s' : σ) (h0 : I s') (hm : μ s' < μ s) (he : Env.sub (E s') env) (ho : (O s').Sublist own) :
    TK c env F own (fun a w => ∃ s', I s' ∧ μ s' < μ s ∧ Hd c (E s') F (O s') a w) := loop_back s' h0 hm he ho

/-- At the label, coming from ahead of it. -/
theorem at_label {x rest : Code} {l : Nat} {σ : Type} {E : σ → Env} {O : σ → Own} {I : σ → Prop} {K : Exit → Act → World → Prop} (hp : ∀ s, I s → T c (E s) F (O s) rest K) (s : σ) (h0 : I s) (he : Env.sub (E s) env) (ho : (O s).Sublist own) (hx : x = .seq (.label l) rest := by rfl) : T c env F own x K := by
  subst hx
  exact t_seq (t_label fun a w hd => hp s h0 a w (hd.drop he ho))

/-! ### Operations of a region, by their number -/

variable {l : List Oper} {k : Nat} {draw : Bool}

/-- The region's beginning. -/
theorem b0 {id : Nat} (h : R c false l.toArray Q 0 env F own) : T c env F own (.region id l.toArray false) Q := r_start h
theorem bD {id : Nat} (hm : c.P.follows .mixedOrders = true) (h : R c true l.toArray Q 0 env F own) : T c env F own (.region id l.toArray true) Q := r_startD hm h
theorem be (hk : l.length = k) (h : TK c env F own (Q .normal)) : R c draw l.toArray Q k env F own := r_end (by simp [hk]) h

theorem o1 {o : Oper} {v : Value} {t : Tmp} (ho : nthO l k = some o) (hD : Det c F own env o v) (ht : o.dst = some t) (hd : Nat.blt t c.n = true) (hw : wantedB l.toArray env o) (h : R c false l.toArray Q (k + 1) ((t, v) :: env) F own) : R c false l.toArray Q k env F own :=
  r_det (by rw [← nthO_eq]; exact ho) (fun h => by cases h) (by rw [ht]; exact hd) hw hD (by rw [ht]; exact h)
/-- A test: both ways. -/
theorem o2 {o : Oper} {b : Bool} {t : Tmp} (ho : nthO l k = some o) (hD : Det c F own env o (.bool b)) (ht : o.dst = some t) (hd : Nat.blt t c.n = true) (hw : wantedB l.toArray env o)
    (h1 : b = true → R c false l.toArray Q (k + 1) ((t, .bool true) :: env) F own) (h2 : b = false → R c false l.toArray Q (k + 1) ((t, .bool false) :: env) F own) : R c false l.toArray Q k env F own := by
  cases b
  · exact o1 ho hD ht hd hw (h2 rfl)
  · exact o1 ho hD ht hd hw (h1 rfl)
theorem o2P {o : Oper} {b : Bool} {p : Prop} {t : Tmp} (hp : b = true ↔ p) (ho : nthO l k = some o) (hD : Det c F own env o (.bool b)) (ht : o.dst = some t) (hd : Nat.blt t c.n = true) (hw : wantedB l.toArray env o)
    (h1 : p → R c false l.toArray Q (k + 1) ((t, .bool true) :: env) F own) (h2 : ¬ p → R c false l.toArray Q (k + 1) ((t, .bool false) :: env) F own) : R c false l.toArray Q k env F own :=
  o2 ho hD ht hd hw (fun h => h1 (hp.1 h)) (fun h => h2 (fun h' => by rw [hp.2 h'] at h; cases h))
theorem on {o : Oper} {t : Tmp} (ho : nthO l k = some o) (ht : o.dst = some t) (hd : Nat.blt t c.n = true) (hw : unwantedB l.toArray env o) (h : R c false l.toArray Q (k + 1) ((t, undef) :: env) F own) : R c false l.toArray Q k env F own :=
  r_no (by rw [← nthO_eq]; exact ho) (fun h => by cases h) (by rw [ht]; exact hd) hw (by rw [ht]; exact h)
theorem om {o : Oper} {V : Nat → Value → Obj → Prop} {t : Tmp} (ho : nthO l k = some o) (hN : New c F own env o V) (ht : o.dst = some t) (hd : Nat.blt t c.n = true) (hw : wantedB l.toArray env o)
    (h : ∀ p v ob, V p v ob → R c false l.toArray Q (k + 1) ((t, v) :: env) F ((p, ob) :: own)) : R c false l.toArray Q k env F own :=
  r_new (by rw [← nthO_eq]; exact ho) (fun h => by cases h) (by rw [ht]; exact hd) hw hN (by rw [ht]; exact h)

/-- An operation by which a block is made that holds what is known: in one step. -/
theorem om1 {o : Oper} {v : Nat → Value} {ob : Nat → Obj} {t : Tmp} (ho : nthO l k = some o) (hN : New c F own env o (fun p u b => u = v p ∧ b = ob p)) (ht : o.dst = some t) (hd : Nat.blt t c.n = true) (hw : wantedB l.toArray env o)
    (h : ∀ p, R c false l.toArray Q (k + 1) ((t, v p) :: env) F ((p, ob p) :: own)) : R c false l.toArray Q k env F own :=
  om ho hN ht hd hw fun p u b hv => by obtain ⟨rfl, rfl⟩ := hv; exact h p

theorem s1 {kd : Nat → Kind} {Z : Env → List Item → Prop} {N : List Item} {i : Nat} {r : List Nat} {o : Oper} {v : Value} {t : Tmp} (ho : nthO l i = some o) (hD : Det c F own env o v) (ht : o.dst = some t) (hd : Nat.blt t c.n = true)
    (hw : wantedB l.toArray env o) (hn : kd i = .det) (h : SG c l.toArray F own kd Z r ((t, v) :: env) N) : SG c l.toArray F own kd Z (i :: r) env N :=
  sg_det (by rw [← nthO_eq]; exact ho) (by rw [ht]; exact hd) hw hn hD (by rw [ht]; exact h)
theorem s2 {kd : Nat → Kind} {Z : Env → List Item → Prop} {N : List Item} {i : Nat} {r : List Nat} {o : Oper} {b : Bool} {t : Tmp} (ho : nthO l i = some o) (hD : Det c F own env o (.bool b)) (ht : o.dst = some t) (hd : Nat.blt t c.n = true)
    (hw : wantedB l.toArray env o) (hn : kd i = .det) (h1 : b = true → SG c l.toArray F own kd Z r ((t, .bool true) :: env) N) (h2 : b = false → SG c l.toArray F own kd Z r ((t, .bool false) :: env) N) : SG c l.toArray F own kd Z (i :: r) env N := by
  cases b
  · exact s1 ho hD ht hd hw hn (h2 rfl)
  · exact s1 ho hD ht hd hw hn (h1 rfl)
theorem s2P {kd : Nat → Kind} {Z : Env → List Item → Prop} {N : List Item} {i : Nat} {r : List Nat} {o : Oper} {b : Bool} {p : Prop} {t : Tmp} (hp : b = true ↔ p) (ho : nthO l i = some o) (hD : Det c F own env o (.bool b)) (ht : o.dst = some t) (hd : Nat.blt t c.n = true)
    (hw : wantedB l.toArray env o) (hn : kd i = .det) (h1 : p → SG c l.toArray F own kd Z r ((t, .bool true) :: env) N) (h2 : ¬ p → SG c l.toArray F own kd Z r ((t, .bool false) :: env) N) : SG c l.toArray F own kd Z (i :: r) env N :=
  s2 ho hD ht hd hw hn (fun h => h1 (hp.1 h)) (fun h => h2 (fun h' => by rw [hp.2 h'] at h; cases h))
theorem sn {kd : Nat → Kind} {Z : Env → List Item → Prop} {N : List Item} {i : Nat} {r : List Nat} {o : Oper} {t : Tmp} (ho : nthO l i = some o) (ht : o.dst = some t) (hd : Nat.blt t c.n = true)
    (hw : unwantedB l.toArray env o) (h : SG c l.toArray F own kd Z r ((t, undef) :: env) N) : SG c l.toArray F own kd Z (i :: r) env N :=
  sg_no (by rw [← nthO_eq]; exact ho) (by rw [ht]; exact hd) hw (by rw [ht]; exact h)
theorem sm1 {kd : Nat → Kind} {Z : Env → List Item → Prop} {N : List Item} {i : Nat} {r : List Nat} {o : Oper} {v : Nat → Value} {ob : Nat → Obj} {t : Tmp} (ho : nthO l i = some o) (hN : New c F own env o (fun p u b => u = v p ∧ b = ob p)) (ht : o.dst = some t) (hd : Nat.blt t c.n = true)
    (hw : wantedB l.toArray env o) (hn : kd i = .new) (h : ∀ p, SG c l.toArray F own kd Z r ((t, v p) :: env) (.own (some t) p (ob p) :: N)) : SG c l.toArray F own kd Z (i :: r) env N :=
  sg_new (by rw [← nthO_eq]; exact ho) (by rw [ht]; exact hd) hw hn hN fun p u b hv => by obtain ⟨rfl, rfl⟩ := hv; rw [ht]; exact h p
/-- .. of a value that is told by a relation. -/
theorem sm {kd : Nat → Kind} {Z : Env → List Item → Prop} {N : List Item} {i : Nat} {r : List Nat} {o : Oper} {V : Nat → Value → Obj → Prop} {t : Tmp} (ho : nthO l i = some o) (hN : New c F own env o V) (ht : o.dst = some t) (hd : Nat.blt t c.n = true)
    (hw : wantedB l.toArray env o) (hn : kd i = .new) (h : ∀ p v ob, V p v ob → SG c l.toArray F own kd Z r ((t, v) :: env) (.own (some t) p ob :: N)) : SG c l.toArray F own kd Z (i :: r) env N :=
  sg_new (by rw [← nthO_eq]; exact ho) (by rw [ht]; exact hd) hw hn hN fun p u b hv => by rw [ht]; exact h p u b hv
/-- One value, by what other operations of the stretch have left. -/
theorem s1N {kd : Nat → Kind} {Z : Env → List Item → Prop} {N : List Item} (ns : List Item) {i : Nat} {r : List Nat} {o : Oper} {v : Value} {t : Tmp} (hns : Needs l.toArray o N ns) (ho : nthO l i = some o) (hD : ∀ F', Incl F F' → (∀ it ∈ ns, it.holds F') → Det c F' own env o v) (ht : o.dst = some t) (hd : Nat.blt t c.n = true)
    (hw : wantedB l.toArray env o) (hn : kd i = .det) (h : SG c l.toArray F own kd Z r ((t, v) :: env) N) : SG c l.toArray F own kd Z (i :: r) env N :=
  sg_detN ns (by rw [← nthO_eq]; exact ho) (by rw [ht]; exact hd) hw hn hns hD (by rw [ht]; exact h)
/-- An operation that makes memory in whatever way. -/
theorem sM {kd : Nat → Kind} {Z : Env → List Item → Prop} {N : List Item} (ns : List Item) {i : Nat} {r : List Nat} {o : Oper} {Rl : Value → Know → Prop} {t : Tmp} (hns : Needs l.toArray o N ns) (ho : nthO l i = some o) (hM : ∀ F', Incl F F' → (∀ it ∈ ns, it.holds F') → Mem c F F' own env o Rl) (ht : o.dst = some t) (hd : Nat.blt t c.n = true)
    (hw : wantedB l.toArray env o) (hn : kd i = .mem (Told F Rl)) (h : ∀ v, (∃ F', Rl v F') → SG c l.toArray F own kd Z r ((t, v) :: env) (.fact (some t) (fun F' => Rl v F') :: N)) : SG c l.toArray F own kd Z (i :: r) env N :=
  sg_memN ns (by rw [← nthO_eq]; exact ho) (by rw [ht]; exact hd) hw hn hns hM fun v hv => by rw [ht]; exact h v hv

/-- Barriers of a region that draws its order. -/
theorem d1 {o : Oper} {v : Value} {t : Tmp} (ho : nthO l k = some o) (hB : aloneB l.toArray k = true) (hD : Det c F own env o v) (ht : o.dst = some t) (hd : Nat.blt t c.n = true) (hw : wantedB l.toArray env o) (h : R c true l.toArray Q (k + 1) ((t, v) :: env) F own) : R c true l.toArray Q k env F own :=
  r_det (by rw [← nthO_eq]; exact ho) (fun _ => hB) (by rw [ht]; exact hd) hw hD (by rw [ht]; exact h)
theorem dn {o : Oper} {t : Tmp} (ho : nthO l k = some o) (hB : aloneB l.toArray k = true) (ht : o.dst = some t) (hd : Nat.blt t c.n = true) (hw : unwantedB l.toArray env o) (h : R c true l.toArray Q (k + 1) ((t, undef) :: env) F own) : R c true l.toArray Q k env F own :=
  r_no (by rw [← nthO_eq]; exact ho) (fun _ => hB) (by rw [ht]; exact hd) hw (by rw [ht]; exact h)
theorem dm1 {o : Oper} {v : Nat → Value} {ob : Nat → Obj} {t : Tmp} (ho : nthO l k = some o) (hB : aloneB l.toArray k = true) (hN : New c F own env o (fun p u b => u = v p ∧ b = ob p)) (ht : o.dst = some t) (hd : Nat.blt t c.n = true) (hw : wantedB l.toArray env o)
    (h : ∀ p, R c true l.toArray Q (k + 1) ((t, v p) :: env) F ((p, ob p) :: own)) : R c true l.toArray Q k env F own :=
  r_new (by rw [← nthO_eq]; exact ho) (fun _ => hB) (by rw [ht]; exact hd) hw hN fun p u b hv => by obtain ⟨rfl, rfl⟩ := hv; rw [ht]; exact h p

/-! ### Stores -/
theorem st1 {t : TypeId} {x y : Operand} {A : Addr} {p j : Nat} {cs cs' : List Value} {T : TypeId} {v : Value} {own' : Own} (hB : draw = true → aloneB l.toArray k = true) (ho : nthO l k = some ⟨none, .store t x y, ty, ps, af, g⟩) (ht : TOne c.P t) (hx : Env.ev env x = some (.pointer (some A))) (hA : A = ⟨p, j, none⟩) (hy : Env.ev env y = some v)
    (hu : Upd p (.cells cs.toArray T (0, 0)) (.cells cs'.toArray T (0, 0)) own own') (hs : setV j [v] cs some = some cs')
    (hw : wantedB l.toArray env ⟨none, .store t x y, ty, ps, af, g⟩) (hv : oneCell v = true) (h : R c draw l.toArray Q (k + 1) env F own') : R c draw l.toArray Q k env F own :=
  r_store1 (by rw [← nthO_eq]; exact ho) hB rfl hw ht hx hA hy hv hu hs h
theorem stN {t : TypeId} {n : Nat} {x y : Operand} {A : Addr} {p j : Nat} {vs cs cs' : List Value} {T : TypeId} {own' : Own} (hB : draw = true → aloneB l.toArray k = true) (ho : nthO l k = some ⟨none, .store t x y, ty, ps, af, g⟩) (ht : TAgg c.P t n) (hx : Env.ev env x = some (.pointer (some A))) (hA : A = ⟨p, j, none⟩) (hy : Env.ev env y = some (.agg vs.toArray))
    (hu : Upd p (.cells cs.toArray T (0, 0)) (.cells cs'.toArray T (0, 0)) own own') (hs : setV j vs cs some = some cs')
    (hw : wantedB l.toArray env ⟨none, .store t x y, ty, ps, af, g⟩) (hn : vs.length = n) (hv : vs.all oneCell = true) (h : R c draw l.toArray Q (k + 1) env F own') : R c draw l.toArray Q k env F own :=
  r_storeN (by rw [← nthO_eq]; exact ho) hB rfl hw ht hx hA hy hn hv hu hs h

/-- A loop: of the slots, those that change as the family says, the others as they are. -/
theorem t_whileM {x : Code} {σ : Type} (M : σ → Env) (O : σ → Own) (μ : σ → Nat) (I : σ → Prop) (s0 : σ) {env0 : Env} (h0 : I s0) (hm : Env.sub (M s0) env) (h1 : Env.sub env0 env) (ho : (O s0).Sublist own)
    (round : ∀ s, I s → T c (M s ++ env0) F (O s) x (Exit.then (fun a w => ∃ s', I s' ∧ μ s' < μ s ∧ Hd c (M s' ++ env0) F (O s') a w) Q)) : T c env F own (.loop x) Q := by
  refine t_while (fun s => M s ++ env0) O μ I s0 h0 ?_ ho round
  generalize M s0 = m at hm
  induction m with
  | nil => exact h1
  | cons y r ih => obtain ⟨t, v⟩ := y; exact ⟨hm.1, ih hm.2⟩

/-- What stands in a result's place. -/
inductive ResOk (c : Cx) (env : Env) (own : Own) : ResultVar → Value → Prop
  | tmp {t : Tmp} {v : Value} : Env.get env t = some v → ResOk c env own (.tmp t) v
  | cell1 {a : Tmp} {t : TypeId} {A : Addr} {p k : Nat} {cs : List Value} {T : TypeId} {fr : Nat × Nat} {v : Value} : TOne c.P t → Env.get env a = some (.pointer (some A)) → A = ⟨p, k, none⟩ → (p, Obj.cells cs.toArray T fr) ∈ own → nthV cs k = some v → ResOk c env own (.cell a t) v
  | cellN {a : Tmp} {t : TypeId} {n : Nat} {A : Addr} {p k : Nat} {cs r : List Value} {T : TypeId} {fr : Nat × Nat} : TAgg c.P t n → Env.get env a = some (.pointer (some A)) → A = ⟨p, k, none⟩ → (p, Obj.cells cs.toArray T fr) ∈ own → cutV k n cs = some r → ResOk c env own (.cell a t) (.agg r.toArray)

def ResAll (c : Cx) (env : Env) (own : Own) : List ResultVar → List Value → Prop
  | [], [] => True
  | r :: rs, v :: vs => ResOk c env own r v ∧ ResAll c env own rs vs
  | _, _ => False

theorem ResOk.run {c : Cx} {env : Env} {F : Know} {own : Own} {r : ResultVar} {v : Value} {a : Act} {w : World} (h : ResOk c env own r v) (hh : Hd c env F own a w) :
    (match r with | .tmp t => (pure (a.tmps.getD t undef) : Sem Value) | .cell x t => do loadVar t (← asAddr (a.tmps.getD x undef))).run c.P w = .ok v w := by
  cases h with
  | tmp h => simp only [hh.env.get _ _ h, Sem.run_pure]
  | cell1 ht hx hA hm hv =>
    subst hA
    rw [nthV_eq] at hv
    have h1 := run_loadAt1 ht (by rw [cell_of (hh.sat.own _ hm)]; exact hv)
    simp only [Instr.loadAt, Instr.sureAddr, Sem.run_bind, Sem.run_pure, Result.andThen_ok] at h1
    simp only [hh.env.get _ _ hx, asAddr, Sem.run_bind, Sem.run_pure, Result.andThen_ok, h1]
  | @cellN x t n A p k cs r T fr ht hx hA hm hv =>
    subst hA
    have h1 : ∀ j, j < n → w.cell? ((⟨p, k, none⟩ : Addr).add j) = r[j]? := fun j hj => by
      rw [add_mk, cell_of (hh.sat.own _ hm)]
      exact (cutV_get hv hj).1
    have hl : r.length = n := by
      rw [cutV_eq hv]
      rcases cutV_some hv with h | h
      · simp; omega
      · subst h; simp
    have h1 := run_loadAtN ht hl h1
    simp only [Instr.loadAt, Instr.sureAddr, Sem.run_bind, Sem.run_pure, Result.andThen_ok] at h1
    simp only [hh.env.get _ _ hx, asAddr, Sem.run_bind, Sem.run_pure, Result.andThen_ok, h1]

def pack : List Value → Value
  | [v] => v
  | vs => .tuple vs.toArray

def resRun (tmps : Array Value) : ResultVar → Sem Value
  | .tmp t => pure (tmps.getD t undef)
  | .cell a t => do loadVar t (← asAddr (tmps.getD a undef))

theorem results_eq (fn : Func) (tmps : Array Value) : results fn tmps = (do let vs ← fn.results.mapM (resRun tmps); pure (if h : vs.size = 1 then vs[0] else .tuple vs)) := by
  unfold results
  congr 1

theorem run_results {fn : Func} {rs : List ResultVar} {vs : List Value} {a : Act} {w : World} (hr : fn.results = rs.toArray) (h : ResAll c env own rs vs) (hh : Hd c env F own a w) : (results fn a.tmps).run c.P w = .ok (pack vs) w := by
  have key : ∀ (rs : List ResultVar) (vs : List Value), ResAll c env own rs vs → (rs.mapM (resRun a.tmps)).run c.P w = .ok vs w := by
    intro rs
    induction rs with
    | nil => intro vs h; cases vs with | nil => simp | cons => exact h.elim
    | cons r rs ih =>
      intro vs h
      cases vs with
      | nil => exact h.elim
      | cons v vs =>
        obtain ⟨h1, h2⟩ := h
        have e : (resRun a.tmps r).run c.P w = .ok v w := by
          have := h1.run hh
          cases r <;> exact this
        simp only [List.mapM_cons, Sem.run_bind, e, ih vs h2, Result.andThen_ok, Sem.run_pure]
  have hk := key rs vs h
  rw [results_eq, hr]
  have e1 : (rs.toArray.mapM (resRun a.tmps)).run c.P w = .ok vs.toArray w := by
    rw [List.mapM_toArray]
    simp only [Sem.run_map, hk, Result.andThen_ok]
  simp only [Sem.run_bind, e1, Result.andThen_ok, Sem.run_pure]
  cases vs with
  | nil => rfl
  | cons v vs => cases vs with
    | nil => rfl
    | cons u vs => simp [pack]

/-- The end of a function, whatever its results. -/
theorem ret_any {fn : Func} {rs : List ResultVar} {vs : List Value} {v : Value} {E : Ending → World → Prop} (hQ : Q .ret = bodyQ c.P fn E .ret) (hr : fn.results = rs.toArray) (hv : ResAll c env own rs vs) (hp : pack vs = v) (h : ∀ w, Sat c F own w → E (.returned v) w) (hdf : c.df = [] := by rfl) : TK c env F own (Q .ret) := by
  intro a w hh
  rw [hQ]
  subst hp
  exact leave_none (hh.env.defers.trans hdf) (run_results hr hv hh) (h w hh.sat)

theorem det_convW {t u : TypeId} {x : Operand} {k k' : IntKind} {m : Int} {td : TypeDesc} (ht : c.P.underlying t = some td) (hu : c.P.underlying u = some (.int k)) (hx : Env.ev env x = some (.int k' m)) (h : k.wrap m = m) :
    Det c F own env ⟨d, .convert t u x, ty, ps, af, g⟩ (.int k m) := by
  have := det_conv (c := c) (F := F) (own := own) (d := d) (ty := ty) (ps := ps) (af := af) (g := g) ht hu hx
  rwa [h] at this

/-- The function's beginning, for one that hands back a value and leaves what was there. -/
theorem fn_pure {P : Program} {f : FuncId} {fn : Func} {code : Code} {args : List Value} {n : Nat} {w : World} {F : Know} {v : Value} (hf : P.funcs[f]? = some fn) (hb : fn.body = some code) (hn : fn.ntmps = n) (hlen : Nat.ble args.length n = true)
    (hF : ∀ a v, F a = some v → w.cell? a = some v) (h : T ⟨P, n, w, [], none, []⟩ (mkEnv 0 args) F [] code (bodyQ P fn (fun e w' => e = .returned v ∧ Keep [] w w'))) : Pure P f args w v :=
  fn_enter hf hb hn (Nat.le_of_ble_eq_true hlen) hF (fun _ _ _ h => by cases h) (by simp) (fun _ h => by cases h) (fun _ h => by cases h) h
end
end Go.Eng
