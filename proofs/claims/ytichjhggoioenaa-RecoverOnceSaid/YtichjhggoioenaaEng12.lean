/-
  The engine, part 12: ranges over a function: what a function yields, and what the loop makes of it.
-/
import Derived.Test.YtichjhggoioenaaEng11
namespace Go.Eng
open Go

/-- The value `yield` of loop l. -/
abbrev yieldV (l : Nat) : Value := .func (.yield l) #[] #[]

/-- One round of loop l. -/
def RoundW (P : Program) (l : Nat) (args : List Value) (W : World) (R : Ending → World → Prop) : Prop :=
  ∃ fn tmps assign body, (Instr.yield l args.toArray).run P W = .ok (.round l fn tmps assign body) W ∧ RoundIn (FR none) 0 P l fn tmps assign body W R

/-- What holds between the rounds of a loop, and what a round does. -/
structure Rounds (P : Program) (l : Nat) (F : Know) (xs : List (List Value)) (J : Nat → World → Prop) (Jx : World → Prop) : Prop where
  st : ∀ k W W', J k W → Keep [] W W' → J k W'
  stx : ∀ W W', Jx W → Keep [] W W' → Jx W'
  know : ∀ k W, J k W → ∀ a u, F a = some u → W.cell? a = some u
  round : ∀ k (hk : k < xs.length) W, J k W → RoundW P l xs[k] W fun e W' => (e = .returned (.bool true) ∧ J (k + 1) W') ∨ (e = .returned (.bool false) ∧ Jx W')

/-- A function that yields these, one after the other, and stops when it is told to. -/
def Gives (P : Program) (f : FuncId) (caps : List Value) (F : Know) (xs : List (List Value)) : Prop :=
  ∀ (l : Nat) (J : Nat → World → Prop) (Jx : World → Prop) (w : World), Rounds P l F xs J Jx → J 0 w →
    Calls P f (yieldV l :: caps).toArray w fun e w' => ∃ v, e = .returned v ∧ (J xs.length w' ∨ Jx w')

theorem Rounds.incl {P : Program} {l : Nat} {F F' : Know} {xs : List (List Value)} {J : Nat → World → Prop} {Jx : World → Prop} (h : Rounds P l F' xs J Jx) (hF : Incl F F') : Rounds P l F xs J Jx :=
  ⟨h.st, h.stx, fun k W hj a u ha => h.know k W hj a u (hF a u ha), h.round⟩
theorem Gives.incl {P : Program} {f : FuncId} {caps : List Value} {F F' : Know} {xs : List (List Value)} (h : Gives P f caps F xs) (hF : Incl F F') : Gives P f caps F' xs :=
  fun l J Jx w hR => h l J Jx w (hR.incl hF)

/-! ### The function that is ranged over -/

theorem fn_gives {P : Program} {f : FuncId} {fn : Func} {code : Code} {caps : List Value} {n : Nat} {F : Know} {xs : List (List Value)} (hf : P.funcs[f]? = some fn) (hb : fn.body = some code) (hn : fn.ntmps = n) (hlen : Nat.ble (caps.length + 1) n = true)
    (h : ∀ (l : Nat) (J : Nat → World → Prop) (Jx : World → Prop) (w : World), Rounds P l F xs J Jx → J 0 w → T ⟨P, n, w, [], none, []⟩ (mkEnv 0 (yieldV l :: caps)) F [] code (bodyQ P fn (fun e w' => ∃ v, e = .returned v ∧ (J xs.length w' ∨ Jx w')))) : Gives P f caps F xs :=
  fun l J Jx w hR h0 => fn_enter hf hb hn (Nat.le_of_ble_eq_true hlen) (hR.know 0 w h0) (fun _ _ _ h => by cases h) (by simp) (fun _ h => by cases h) (fun _ h => by cases h) (h l J Jx w hR h0)

section
variable {P : Program} {n : Nat} {w0 : World} {env : Env} {F : Know} {own : Own} {Q : Exit → Act → World → Prop}

/-- A call of yield. -/
theorem oY {ty : TypeId} {ps : String} {af : Array Edge} {g : Option (Nat × Bool)} {l : List Oper} {k : Nat} {draw : Bool} {t : Tmp} {F0 : Know} {x : Operand} {lp : Nat} {args : List Operand} {ts : Array TypeId} {vs : List Value} {xs : List (List Value)} {J : Nat → World → Prop} {Jx : World → Prop} {i : Nat} (hR : Rounds P lp F0 xs J Jx) (hJ : J i w0) (hi : i < xs.length)
    (hB : draw = true → aloneB l.toArray k = true) (ho : nthO l k = some ⟨some t, .call { callee := .value x, args := args.toArray, argTypes := ts }, ty, ps, af, g⟩) (hx : Env.ev env x = some (yieldV lp)) (hv : args.mapM (Env.ev env) = some vs)
    (hd : Nat.blt t n = true) (hw : wantedB l.toArray env ⟨some t, .call { callee := .value x, args := args.toArray, argTypes := ts }, ty, ps, af, g⟩) (hvs : vs = xs[i])
    (h1 : ∀ w1, J (i + 1) w1 → R ⟨P, n, w1, [], none, []⟩ draw l.toArray Q (k + 1) ((t, .bool true) :: env) F0 []) (h2 : ∀ w1, Jx w1 → R ⟨P, n, w1, [], none, []⟩ draw l.toArray Q (k + 1) ((t, .bool false) :: env) noK []) : R ⟨P, n, w0, [], none, []⟩ draw l.toArray Q k env F own := by
  refine r_one (Array.getElem?_eq_some_iff.1 (by rw [← nthO_eq]; exact ho)).1 hB fun a w hh => ?_
  unfold wpOpIn
  have ho' : l.toArray[k]? = some ⟨some t, .call { callee := .value x, args := args.toArray, argTypes := ts }, ty, ps, af, g⟩ := by rw [← nthO_eq]; exact ho
  simp only [ho', wanted_of hh.env hw, if_true]
  refine ⟨fun _ _ => trivial, ?_⟩
  rw [Oper.semAt_eq _ _ _ (fun _ h => by cases h)]
  subst hvs
  obtain ⟨fn, tmps, assign, body, hy, hr⟩ := hR.round i hi w (hR.st i _ _ hJ hh.sat.keep)
  have e : (execOp a.eval ⟨some t, .call { callee := .value x, args := args.toArray, argTypes := ts }, ty, ps, af, g⟩).run P w = .ok (.round lp fn tmps assign body) w := by
    have e : args.toArray.map a.eval = xs[i].toArray := by rw [List.map_toArray, evals hh.env hv]
    simp only [execOp, Sem.run_bind, run_resolve_func (hh.env.eval hx), Result.andThen_ok, invoke]
    rw [e]
    simpa using hy
  rw [e]
  simp only [Oper.uponIn]
  refine ⟨FR_dep, hr.mono fun e w' he => ?_⟩
  rcases he with ⟨rfl, hj⟩ | ⟨rfl, hj⟩
  · exact h1 w' hj _ _ ⟨hh.env.put' (d := some t) hd _, Keep.refl _ _, hR.know _ _ hj, fun _ _ _ h => (by cases h), by simp, fun _ h => (by cases h), fun _ h => (by cases h)⟩
  · exact h2 w' hj _ _ ⟨hh.env.put' (d := some t) hd _, Keep.refl _ _, fun _ _ h => (by cases h), fun _ _ h => (by cases h), by simp, fun _ h => (by cases h), fun _ h => (by cases h)⟩

/-- A loop in which yield is called: what holds between the rounds is told of the world since the last call. -/
theorem t_whileG {x : Code} {σ : Type} (M : σ → Env) (μ : σ → Nat) (I : σ → World → Prop) (s0 : σ) {env0 : Env} (h0 : I s0 w0) (hm : Env.sub (M s0) env) (h1 : Env.sub env0 env)
    (round : ∀ s w1, I s w1 → T ⟨P, n, w1, [], none, []⟩ (M s ++ env0) F [] x (Exit.then (fun a w => ∃ s' w2, I s' w2 ∧ μ s' < μ s ∧ Hd ⟨P, n, w2, [], none, []⟩ (M s' ++ env0) F [] a w) Q)) : T ⟨P, n, w0, [], none, []⟩ env F own (.loop x) Q := by
  have hsub : Env.sub (M s0 ++ env0) env := by
    generalize M s0 = m at hm
    induction m with
    | nil => exact h1
    | cons y r ih => obtain ⟨t, v⟩ := y; exact ⟨hm.1, ih hm.2⟩
  intro a w hd b k cs hro hb hr
  have hd := hd.drop hsub (List.nil_sublist _)
  have key : ∀ j (s : σ) w1 a w, μ s = j → I s w1 → Hd ⟨P, n, w1, [], none, []⟩ (M s ++ env0) F [] a w →
      ∃ e a' w', Q e a' w' ∧ ArrivesIn (Machine.fenced P (FR none)) P (lone (b.atR a (.code x :: .inLoop x :: k)) cs w) b k cs e a' w' := by
    intro j
    induction j using Nat.strongRecOn with
    | _ j ih =>
      intro s w1 a w hn hI hd
      obtain ⟨e, a₁, w₁, hq, harr⟩ := round s w1 hI a w hd b (.inLoop x :: k) cs hro hb hr
      cases e with
      | normal =>
        obtain ⟨s', w2, hI₁, hlt, hd₁⟩ := hq
        obtain ⟨e₂, a₂, w₂, hq₂, harr₂⟩ := ih (μ s') (hn ▸ hlt) s' w2 a₁ w₁ rfl hI₁ hd₁
        exact ⟨e₂, a₂, w₂, hq₂, .of_steps (StepsIn.trans harr (.one (fenced_calm hb hr rfl) stepR_inLoop)) harr₂⟩
      | exit id => exact ⟨_, a₁, w₁, hq, .pass (x := .inLoop x) rfl (fun _ _ => .inl (by simp)) harr⟩
      | goto l => exact ⟨_, a₁, w₁, hq, .pass (x := .inLoop x) rfl (fun _ _ => .inl (by simp)) harr⟩
      | ret => exact ⟨_, a₁, w₁, hq, .pass (x := .inLoop x) rfl (fun _ _ => .inl (by simp)) harr⟩
      | panic ch => exact ⟨_, a₁, w₁, hq, .pass (x := .inLoop x) rfl (fun _ _ => .inl (by simp)) harr⟩
      | outgrown => exact ⟨_, a₁, w₁, hq, .pass (x := .inLoop x) rfl (fun _ _ => .inl (by simp)) harr⟩
  obtain ⟨e, a', w', hq, harr⟩ := key _ s0 w0 a w rfl h0 hd
  exact ⟨e, a', w', hq, .of_steps (.one (fenced_calm hb hr rfl) stepR_loop) harr⟩

theorem loop_backG {σ : Type} {E : σ → Env} {μ : σ → Nat} {I : σ → World → Prop} {s : σ} (s' : σ) (h0 : I s' w0) (hm : μ s' < μ s) (he : Env.sub (E s') env) :
    TK ⟨P, n, w0, [], none, []⟩ env F own (fun a w => ∃ s' w2, I s' w2 ∧ μ s' < μ s ∧ Hd ⟨P, n, w2, [], none, []⟩ (E s') F [] a w) := fun _ _ hd => ⟨s', w0, h0, hm, hd.drop he (List.nil_sublist _)⟩

/-! ### The end of a function behind a loop -/

abbrev markD (D : Nat) : Deferred := { target := .collected D, args := #[] }
abbrev deadO (D : Nat) : Nat × Obj := (D, .deferred (some []))

theorem ret_mark {c : Cx} {D : Nat} {pre : Own} {fn : Func} {rs : List ResultVar} {vs : List Value} {v : Value} {E : Ending → World → Prop} (hQ : Q .ret = bodyQ c.P fn E .ret) (hr : fn.results = rs.toArray) (hv : ResAll c env pre rs vs) (hp : pack vs = v) (h : ∀ w, Sat c F pre w → E (.returned v) w) (hdf : c.df = [markD D] := by rfl) : TK c env F (pre ++ [deadO D]) (Q .ret) := by
  intro a w hh
  rw [hQ]
  subst hp
  show LeavesInM (FR none) 0 c.P fn a.tmps E a.defers .returning w
  rw [hh.env.defers, hdf]
  have hm : deadO D ∈ pre ++ [deadO D] := List.mem_append_right _ List.mem_cons_self
  have hD := hh.sat.own _ hm
  have hu : Upd D (.deferred (some [])) (.deferred none) (pre ++ [deadO D]) (pre ++ [(D, .deferred none)]) := .app .head
  have hs : Sat c F pre (w.putObj D (.deferred none)) := (hh.sat.upd hu).sub (List.sublist_append_left _ _)
  refine ⟨by simp, .inl ⟨D, _, rfl, run_takeDeferred hD, pack vs, run_results (F := F) (a := a) hr hv ⟨hh.env, hs⟩, h _ hs⟩⟩

/-- The end of a function that hands back nothing. -/
theorem end_none {c : Cx} {fn : Func} {E : Ending → World → Prop} (hQ : Q .normal = bodyQ c.P fn E .normal) (hr : fn.results = #[]) (h : ∀ w, Sat c F own w → E (.returned (.tuple #[])) w) (hdf : c.df = [] := by rfl) : TK c env F own (Q .normal) := by
  intro a w hh
  rw [hQ]
  exact leave_none (fn := fn) (hh.env.defers.trans hdf) (run_results (rs := []) (vs := []) hr trivial hh) (h w hh.sat)

/-! ### The loop -/

def zipE : List Tmp → List Value → List (Nat × Value) → List (Nat × Value)
  | p :: ps, v :: vs, e => zipE ps vs ((p, v) :: e)
  | _, _, e => e

theorem zipE_ok {df df' : List Deferred} : ∀ (ps : List Tmp) (vs : List Value) (env : Env) (a : Act), ps.all (fun p => Nat.blt p n) = true → EnvOk n df env a →
    EnvOk n df' (zipE ps vs env) { tmps := (ps.zip vs).foldl (fun t (x : Tmp × Value) => t.setIfInBounds x.1 x.2) a.tmps, defers := df' }
  | [], vs, env, a, _, h => ⟨h.size, rfl, h.get⟩
  | p :: ps, [], env, a, _, h => ⟨h.size, rfl, h.get⟩
  | p :: ps, v :: vs, env, a, hp, h => by
    simp only [List.all_cons, Bool.and_eq_true] at hp
    have := zipE_ok (df' := df') ps vs ((p, v) :: env) (a.put (some p) v) hp.2 (h.put (by simpa [Nat.blt_eq] using hp.1) v)
    simpa [zipE, Act.put] using this

/-- Behind `beginRound`. -/
def Begin (P : Program) (l : Nat) (body : Code) (Q : Exit → Act → World → Prop) : Act → World → Prop := fun a w => ∃ w2, (Instr.beginRound l).run P w = .ok () w2 ∧ body.wpIn (FR (some l)) 0 P Q a w2

/-- Between two rounds; and where a round has left the loop. -/
def SatJ {σ : Type} (c : Cx) (F : Know) (O : σ → Own) (I : Nat → σ → Prop) (l D : Nat) (r : Loop) (k : Nat) (W : World) : Prop := ∃ s, I k s ∧ Sat c F (O s ++ [(l, .loop r), deadO D]) W
def SatX {σ : Type} (c : Cx) (F : Know) (O : σ → Own) (Ix : Code → σ → Prop) (l D : Nat) (r : Loop) (W : World) : Prop := ∃ jump s, Ix jump s ∧ Sat c F (O s ++ [(l, .loop { r with state := .done, pending := some jump }), deadO D]) W
/-- What a round's body comes to. -/
def RQ {σ : Type} (c : Cx) (F : Know) (O : σ → Own) (I : Nat → σ → Prop) (Ix : Code → σ → Prop) (l D : Nat) (r : Loop) (k : Nat) : Exit → Act → World → Prop :=
  roundPost c.P l (fun e W' => (e = .returned (.bool true) ∧ SatJ c F O I l D r (k + 1) W') ∨ (e = .returned (.bool false) ∧ SatX c F O Ix l D r W'))

theorem Sat.ch {c c' : Cx} {w : World} (h : Sat c F own w) (h1 : c'.w0 = c.w0) (h2 : c'.S = c.S) : Sat c' F own w :=
  ⟨by rw [h1, h2]; exact h.keep, h.know, h.away, h.nodup, by rw [h1, h2]; exact h.ids, h.own⟩

theorem k_begin {c : Cx} {l : Nat} {body : Code} {pre post : Own} {r : Loop} (hr : r.state = .ready) (hro : c.ro = some l) (h : T c env F (pre ++ ((l, .loop { r with state := .busy }) :: post)) body Q) : TK c env F (pre ++ ((l, .loop r) :: post)) (Begin c.P l body Q) := by
  intro a w hh
  have hm : (l, Obj.loop r) ∈ pre ++ ((l, .loop r) :: post) := List.mem_append_right _ List.mem_cons_self
  have hu : Upd l (.loop r) (.loop { r with state := .busy }) (pre ++ ((l, .loop r) :: post)) (pre ++ ((l, .loop { r with state := .busy }) :: post)) := .app .head
  refine ⟨_, run_beginRound (hh.sat.own _ hm) hr, ?_⟩
  have h2 := h a _ ⟨hh.env, hh.sat.upd hu⟩
  rw [hro] at h2
  exact h2

section
variable {σ : Type} {c c' : Cx} {O : σ → Own} {I : Nat → σ → Prop} {Ix : Code → σ → Prop} {l D : Nat} {r : Loop} {k : Nat}

theorem endRound_sat {jump : Option Code} {s : σ} {w : World} (hs : Sat c F (O s ++ [(l, .loop { r with state := .busy }), deadO D]) w) :
    ∃ w', (Instr.endRound l jump).run P w = .ok (.bool jump.isNone) w' ∧ Sat c F (O s ++ [(l, .loop { r with state := if jump.isNone then .ready else .done, pending := jump }), deadO D]) w' := by
  have hm : (l, Obj.loop { r with state := .busy }) ∈ O s ++ [(l, .loop { r with state := .busy }), deadO D] := List.mem_append_right _ List.mem_cons_self
  have hl := hs.own _ hm
  have hu : Upd l (.loop { r with state := .busy }) (.loop { r with state := if jump.isNone then .ready else .done, pending := jump }) (O s ++ [(l, .loop { r with state := .busy }), deadO D]) (O s ++ [(l, .loop { r with state := if jump.isNone then .ready else .done, pending := jump }), deadO D]) := .app .head
  exact ⟨_, run_endRound (P := P) jump hl, hs.upd hu⟩

/-- A round that goes on. -/
theorem round_next (s : σ) (hr : r.state = .ready ∧ r.pending = none) (hI : I (k + 1) s) (hs : (O s ++ [(l, .loop { r with state := .busy }), deadO D]).Sublist own) (h1 : c.w0 = c'.w0) (h2 : c.S = c'.S) : TK c' env F own (RQ c F O I Ix l D r k .normal) := by
  intro a w hh
  obtain ⟨w', g1, g2⟩ := endRound_sat (P := c.P) (jump := none) ((hh.sat.sub hs).ch h1 h2)
  have e : ({ r with state := if (none : Option Code).isNone then .ready else .done, pending := none } : Loop) = r := by
    obtain ⟨e1, e2⟩ := hr
    cases r
    simp only at e1 e2
    subst e1; subst e2; rfl
  rw [e] at g2
  exact ⟨_, w', g1, .inl ⟨rfl, s, hI, g2⟩⟩
/-- A round that leaves the loop. -/
theorem round_ret (s : σ) (hI : Ix .ret s) (hs : (O s ++ [(l, .loop { r with state := .busy }), deadO D]).Sublist own) (h1 : c.w0 = c'.w0) (h2 : c.S = c'.S) : TK c' env F own (RQ c F O I Ix l D r k .ret) := by
  intro a w hh
  obtain ⟨w', g1, g2⟩ := endRound_sat (P := c.P) (jump := some .ret) ((hh.sat.sub hs).ch h1 h2)
  exact ⟨_, w', g1, .inr ⟨rfl, _, s, hI, g2⟩⟩
theorem round_exit {id : Nat} (s : σ) (hI : Ix (.exit id) s) (hs : (O s ++ [(l, .loop { r with state := .busy }), deadO D]).Sublist own) (h1 : c.w0 = c'.w0) (h2 : c.S = c'.S) : TK c' env F own (RQ c F O I Ix l D r k (.exit id)) := by
  intro a w hh
  obtain ⟨w', g1, g2⟩ := endRound_sat (P := c.P) (jump := some (.exit id)) ((hh.sat.sub hs).ch h1 h2)
  exact ⟨_, w', g1, .inr ⟨rfl, _, s, hI, g2⟩⟩
end

/-- A range over a function. -/
theorem t_rangeF {S : List Nat} {df : List Deferred} {g : Operand} {ps : List Tmp} {assign body : Code} {gf : FuncId} {caps : List Value} {xs : List (List Value)} {σ : Type} (O : σ → Own) (I : Nat → σ → Prop) (Ix : Code → σ → Prop) (s0 : σ) (X : Nat → List Value) {env0 : Env}
    (hg : Env.ev env g = some (.func (.func gf) #[] caps.toArray)) (hb : HasBody P gf) (hG : Gives P gf caps F xs) (hX : ∀ k (hk : k < xs.length), xs[k] = X k) (hps : ∀ k, (X k).length = ps.length) (hpn : ps.all (fun p => Nat.blt p n) = true)
    (h0 : I 0 s0) (he : Env.sub env0 env) (ho : (O s0).Sublist own)
    (round : ∀ (l D : Nat) (r : Loop) (k : Nat) (s : σ), r.state = .ready ∧ r.pending = none → k < xs.length → I k s →
      T ⟨P, n, w0, S, some l, []⟩ (zipE ps (X k) env0) F (O s ++ [(l, .loop r), deadO D]) assign (Exit.then (Begin P l body (RQ ⟨P, n, w0, S, none, []⟩ F O I Ix l D r k)) (fun _ _ _ => False)))
    (done : ∀ (D : Nat) (s : σ), I xs.length s → TK ⟨P, n, w0, S, none, markD D :: df⟩ env0 F (O s ++ [deadO D]) (Q .normal))
    (stop : ∀ (D : Nat) (jump : Code) (s : σ), Ix jump s → T ⟨P, n, w0, S, none, markD D :: df⟩ env0 F (O s ++ [deadO D]) jump Q) :
    T ⟨P, n, w0, S, none, df⟩ env F own (.rangeFunc g ps.toArray assign body) Q := by
  intro a w hd
  have hd0 := hd.drop he ho
  refine wpIn_rangeFunc fun fn _ => ?_
  obtain ⟨rr, hrr⟩ : ∃ rr : Loop, rr = { state := .ready, pending := none, fn, tmps := a.tmps, params := ps.toArray, assign, body, defers := w.heap.size } := ⟨_, rfl⟩
  have hst : rr.state = .ready ∧ rr.pending = none := by rw [hrr]; exact ⟨rfl, rfl⟩
  obtain ⟨w1, hw1⟩ : ∃ w1, (w.alloc (.deferred (some []))).alloc (.loop rr) = w1 := ⟨_, rfl⟩
  have hs1 : Sat ⟨P, n, w0, S, none, []⟩ F (O s0 ++ [(w.heap.size + 1, .loop rr), deadO w.heap.size]) w1 := by
    have g1 := (hd0.sat.addN (.deferred (some []))).addN (.loop rr)
    rw [hw1, World.size_alloc] at g1
    refine (g1.perm ?_).ch rfl rfl
    exact (List.perm_append_comm (l₁ := [(w.heap.size + 1, Obj.loop rr), deadO w.heap.size]) (l₂ := O s0))
  have hcl : Calls P gf (yieldV (w.heap.size + 1) :: caps).toArray w1 fun e w' => ∃ v, e = .returned v ∧ (SatJ ⟨P, n, w0, S, none, []⟩ F O I (w.heap.size + 1) w.heap.size rr xs.length w' ∨ SatX ⟨P, n, w0, S, none, []⟩ F O Ix (w.heap.size + 1) w.heap.size rr w') := by
    refine hG _ (SatJ ⟨P, n, w0, S, none, []⟩ F O I (w.heap.size + 1) w.heap.size rr) _ w1 ⟨?_, ?_, ?_, ?_⟩ ⟨s0, h0, hs1⟩
    · rintro k W W' ⟨s, hI, hs⟩ hk; exact ⟨s, hI, hs.keep' hk⟩
    · rintro W W' ⟨j, s, hI, hs⟩ hk; exact ⟨j, s, hI, hs.keep' hk⟩
    · rintro k W ⟨s, hI, hs⟩ a u ha; exact hs.know a u ha
    · rintro k hk W ⟨s, hI, hs⟩
      have hm : (w.heap.size + 1, Obj.loop rr) ∈ O s ++ [(w.heap.size + 1, .loop rr), deadO w.heap.size] := List.mem_append_right _ List.mem_cons_self
      have hl := hs.own _ hm
      have hxs : xs[k].length = ps.length := by rw [hX k hk]; exact hps k
      have hpp : rr.params = ps.toArray := by rw [hrr]
      have hy := run_yield (P := P) (args := xs[k].toArray) hl (by rw [hpp, List.size_toArray, List.size_toArray, hxs])
      have ez : (rr.params.zip xs[k].toArray).foldl (fun tmps (x : Tmp × Value) => tmps.setIfInBounds x.1 x.2) rr.tmps = (ps.zip (X k)).foldl (fun t (x : Tmp × Value) => t.setIfInBounds x.1 x.2) a.tmps := by
        have e2 : rr.tmps = a.tmps := by rw [hrr]
        rw [hpp, hX k hk, e2]; simp
      rw [ez] at hy
      refine ⟨_, _, _, _, hy, ?_⟩
      have hT := round _ w.heap.size rr k s hst hk hI _ W ⟨zipE_ok (n := n) (df' := []) ps (X k) env0 a hpn hd0.env, hs.ch rfl rfl⟩
      have ea : rr.assign = assign := by rw [hrr]
      have eb : rr.body = body := by rw [hrr]
      rw [ea, eb]
      refine roundIn_of_wpIn (F := FR none) trivial ?_
      exact hT
  refine ⟨w.heap.size + 1, [markD w.heap.size], w1, { target := .fn (.func gf) caps.toArray, args := #[yieldV (w.heap.size + 1)] }, w1, gf, (yieldV (w.heap.size + 1) :: caps).toArray, w1, ?_, ?_, fun _ _ => trivial, ?_, FR_dep, calls_FR (hcl.mono ?_)⟩
  · rw [← hw1, hrr]; exact run_enterLoop_outer _ _ _ _ _
  · have := run_resolve_func (P := P) (w := w1) (ρ := a.eval) (x := g) (args := #[.const (yieldV (w.heap.size + 1))]) (ts := #[]) (t := 0) (hd.env.eval hg)
    simpa [Act.eval] using this
  · simp only [invoke, hb.call]
    simp
  · rintro e w2 ⟨v, rfl, ⟨s, hI, hs⟩ | ⟨jump, s, hI, hs⟩⟩
    · have hm : (w.heap.size + 1, Obj.loop rr) ∈ O s ++ [(w.heap.size + 1, .loop rr), deadO w.heap.size] := List.mem_append_right _ List.mem_cons_self
      have hu : Upd (w.heap.size + 1) (.loop rr) (.loop { rr with state := .exhausted, pending := none }) (O s ++ [(w.heap.size + 1, .loop rr), deadO w.heap.size]) (O s ++ [(w.heap.size + 1, .loop { rr with state := .exhausted, pending := none }), deadO w.heap.size]) := .app .head
      refine ⟨none, _, by have := run_endLoop (P := P) (hs.own _ hm) (by rw [hst.1]; simp); rw [hst.2] at this; exact this, ?_⟩
      refine done w.heap.size s hI _ _ ⟨⟨hd0.env.size, by simp [hd0.env.defers], hd0.env.get⟩, ?_⟩
      exact ((hs.upd hu).sub ((List.sublist_cons_self _ _).append_left _)).ch rfl rfl
    · have hm : (w.heap.size + 1, Obj.loop { rr with state := .done, pending := some jump }) ∈ O s ++ [(w.heap.size + 1, .loop { rr with state := .done, pending := some jump }), deadO w.heap.size] := List.mem_append_right _ List.mem_cons_self
      have hu : Upd (w.heap.size + 1) (.loop { rr with state := .done, pending := some jump }) (.loop { rr with state := .exhausted, pending := some jump }) (O s ++ [(w.heap.size + 1, .loop { rr with state := .done, pending := some jump }), deadO w.heap.size]) (O s ++ [(w.heap.size + 1, .loop { rr with state := .exhausted, pending := some jump }), deadO w.heap.size]) := .app .head
      refine ⟨some jump, _, by have := run_endLoop (P := P) (hs.own _ hm) (by simp); exact this, ?_⟩
      refine stop w.heap.size jump s hI _ _ ⟨⟨hd0.env.size, by simp [hd0.env.defers], hd0.env.get⟩, ?_⟩
      exact ((hs.upd hu).sub ((List.sublist_cons_self _ _).append_left _)).ch rfl rfl
end
end Go.Eng
