/-
  The texts Eng12 to Eng24, one after the other.
-/
import Derived.Test.YtffocfffggfenaaEng4ToEng11PportKnownhol
import Derived.ProofKit
/-
  The engine, part 12: ranges over a function: what a function yields, and what the loop makes of it.
-/
namespace Go.Eng
open Go
abbrev yieldV (l : Nat) : Value := .func (.yield l) #[] #[]
def RoundW (P : Program) (l : Nat) (args : List Value) (W : World) (R : Ending → World → Prop) : Prop :=
  ∃ fn tmps assign body, (Instr.yield l args.toArray).run P W = .ok (.round l fn tmps assign body) W ∧ RoundIn (FR none) 0 P l fn tmps assign body W R
structure Rounds (P : Program) (l : Nat) (F : Know) (xs : List (List Value)) (J : Nat → World → Prop) (Jx : World → Prop) : Prop where
  st : ∀ k W W', J k W → Keep [] W W' → J k W'
  stx : ∀ W W', Jx W → Keep [] W W' → Jx W'
  know : ∀ k W, J k W → ∀ a u, F a = some u → W.cell? a = some u
  round : ∀ k (hk : k < xs.length) W, J k W → RoundW P l xs[k] W fun e W' => (e = .returned (.bool true) ∧ J (k + 1) W') ∨ (e = .returned (.bool false) ∧ Jx W')
def Gives (P : Program) (f : FuncId) (caps : List Value) (F : Know) (xs : List (List Value)) : Prop :=
  ∀ (l : Nat) (J : Nat → World → Prop) (Jx : World → Prop) (w : World), Rounds P l F xs J Jx → J 0 w →
    Calls P f (yieldV l :: caps).toArray w fun e w' => ∃ v, e = .returned v ∧ (J xs.length w' ∨ Jx w')
theorem Rounds.incl {P : Program} {l : Nat} {F F' : Know} {xs : List (List Value)} {J : Nat → World → Prop} {Jx : World → Prop} (h : Rounds P l F' xs J Jx) (hF : Incl F F') : Rounds P l F xs J Jx :=
  ⟨h.st, h.stx, fun k W hj a u ha => h.know k W hj a u (hF a u ha), h.round⟩
theorem Gives.incl {P : Program} {f : FuncId} {caps : List Value} {F F' : Know} {xs : List (List Value)} (h : Gives P f caps F xs) (hF : Incl F F') : Gives P f caps F' xs :=
  fun l J Jx w hR => h l J Jx w (hR.incl hF)
/-! ### The function that is ranged over -/
theorem fn_gives {P : Program} {f : FuncId} {fn : Func} {code : Code} {caps : List Value} {n : Nat} {F : Know} {xs : List (List Value)} (hf : P.funcs[f]? = some fn) (hb : fn.body = some code) (hn : fn.ntmps = n) (hlen : Nat.ble (caps.length + 1) n = true)
    (h : ∀ (l : Nat) (J : Nat → World → Prop) (Jx : World → Prop) (w : World), Rounds P l F xs J Jx → J 0 w → T ⟨P, n, w, [], none, []⟩ (mkEnv 0 (yieldV l :: caps)) F [] code (bodyQ P fn (fun e w' => ∃ v, e = .returned v ∧ (J xs.length w' ∨ Jx w')))) : Gives P f caps F xs :=
  fun l J Jx w hR h0 => fn_enter hf hb hn (Nat.le_of_ble_eq_true hlen) (hR.know 0 w h0) (fun _ _ _ h => by cases h) (by simp) (fun _ h => by cases h) (fun _ h => by cases h) (h l J Jx w hR h0)
section
variable {P : Program} {n : Nat} {w0 : World} {env : Env} {F : Know} {own : Own} {Q : Exit → Act → World → Prop}
theorem oY {ty : TypeId} {ps : String} {af : Array Edge} {g : Option (Nat × Bool)} {l : List Oper} {k : Nat} {draw : Bool} {t : Tmp} {F0 : Know} {x : Operand} {lp : Nat} {args : List Operand} {ts : Array TypeId} {vs : List Value} {xs : List (List Value)} {J : Nat → World → Prop} {Jx : World → Prop} {i : Nat} (hR : Rounds P lp F0 xs J Jx) (hJ : J i w0) (hi : i < xs.length)
    (hB : draw = true → aloneB l.toArray k = true) (ho : nthO l k = some ⟨some t, .call { callee := .value x, args := args.toArray, argTypes := ts }, ty, ps, af, g⟩) (hx : Env.ev env x = some (yieldV lp)) (hv : args.mapM (Env.ev env) = some vs)
    (hd : Nat.blt t n = true) (hw : wantedB l.toArray env ⟨some t, .call { callee := .value x, args := args.toArray, argTypes := ts }, ty, ps, af, g⟩) (hvs : vs = xs[i])
    (h1 : ∀ w1, J (i + 1) w1 → R ⟨P, n, w1, [], none, []⟩ draw l.toArray Q (k + 1) ((t, .bool true) :: env) F0 []) (h2 : ∀ w1, Jx w1 → R ⟨P, n, w1, [], none, []⟩ draw l.toArray Q (k + 1) ((t, .bool false) :: env) noK []) : R ⟨P, n, w0, [], none, []⟩ draw l.toArray Q k env F own := by
  refine r_one (Array.getElem?_eq_some_iff.1 (by rw [← nthO_eq]; exact ho)).1 hB fun a w hh => ?_
  unfold wpOpIn
  have ho' : l.toArray[k]? = some ⟨some t, .call { callee := .value x, args := args.toArray, argTypes := ts }, ty, ps, af, g⟩ := by rw [← nthO_eq]; exact ho
  simp only [ho', wanted_of hh.env hw, if_true]
  refine ⟨fun _ _ => trivial, ?_⟩
  rw [Oper.semAt_eq _ _ _ (fun _ h => by cases h)]
  subst hvs
  obtain ⟨fn, tmps, assign, body, hy, hr⟩ := hR.round i hi w (hR.st i _ _ hJ hh.sat.keep)
  have e : (execOp a.eval ⟨some t, .call { callee := .value x, args := args.toArray, argTypes := ts }, ty, ps, af, g⟩).run P w = .ok (.round lp fn tmps assign body) w := by
    have e : args.toArray.map a.eval = xs[i].toArray := by rw [List.map_toArray, evals hh.env hv]
    simp only [execOp, Sem.run_bind, run_resolve_func (hh.env.eval hx), Result.andThen_ok, invoke]
    rw [e]
    simpa using hy
  rw [e]
  simp only [Oper.uponIn]
  refine ⟨FR_dep, hr.mono fun e w' he => ?_⟩
  rcases he with ⟨rfl, hj⟩ | ⟨rfl, hj⟩
  · exact h1 w' hj _ _ ⟨hh.env.put' (d := some t) hd _, Keep.refl _ _, hR.know _ _ hj, fun _ _ _ h => (by cases h), by simp, fun _ h => (by cases h), fun _ h => (by cases h)⟩
  · exact h2 w' hj _ _ ⟨hh.env.put' (d := some t) hd _, Keep.refl _ _, fun _ _ h => (by cases h), fun _ _ h => (by cases h), by simp, fun _ h => (by cases h), fun _ h => (by cases h)⟩
theorem t_whileG {x : Code} {σ : Type} (M : σ → Env) (μ : σ → Nat) (I : σ → World → Prop) (s0 : σ) {env0 : Env} (h0 : I s0 w0) (hm : Env.sub (M s0) env) (h1 : Env.sub env0 env)
    (round : ∀ s w1, I s w1 → T ⟨P, n, w1, [], none, []⟩ (M s ++ env0) F [] x (Exit.then (fun a w => ∃ s' w2, I s' w2 ∧ μ s' < μ s ∧ Hd ⟨P, n, w2, [], none, []⟩ (M s' ++ env0) F [] a w) Q)) : T ⟨P, n, w0, [], none, []⟩ env F own (.loop x) Q := by
  have hsub : Env.sub (M s0 ++ env0) env := by
    generalize M s0 = m at hm
    induction m with
    | nil => exact h1
    | cons y r ih => obtain ⟨t, v⟩ := y; exact ⟨hm.1, ih hm.2⟩
  intro a w hd b k cs hro hb hr
  have hd := hd.drop hsub (List.nil_sublist _)
  have key : ∀ j (s : σ) w1 a w, μ s = j → I s w1 → Hd ⟨P, n, w1, [], none, []⟩ (M s ++ env0) F [] a w →
      ∃ e a' w', Q e a' w' ∧ ArrivesIn (Machine.fenced P (FR none)) P (lone (b.atR a (.code x :: .inLoop x :: k)) cs w) b k cs e a' w' := by
    intro j
    induction j using Nat.strongRecOn with
    | _ j ih =>
      intro s w1 a w hn hI hd
      obtain ⟨e, a₁, w₁, hq, harr⟩ := round s w1 hI a w hd b (.inLoop x :: k) cs hro hb hr
      cases e with
      | normal =>
        obtain ⟨s', w2, hI₁, hlt, hd₁⟩ := hq
        obtain ⟨e₂, a₂, w₂, hq₂, harr₂⟩ := ih (μ s') (hn ▸ hlt) s' w2 a₁ w₁ rfl hI₁ hd₁
        exact ⟨e₂, a₂, w₂, hq₂, .of_steps (StepsIn.trans harr (.one (fenced_calm hb hr rfl) stepR_inLoop)) harr₂⟩
      | exit id => exact ⟨_, a₁, w₁, hq, .pass (x := .inLoop x) rfl (fun _ _ => .inl (by simp)) harr⟩
      | goto l => exact ⟨_, a₁, w₁, hq, .pass (x := .inLoop x) rfl (fun _ _ => .inl (by simp)) harr⟩
      | ret => exact ⟨_, a₁, w₁, hq, .pass (x := .inLoop x) rfl (fun _ _ => .inl (by simp)) harr⟩
      | panic ch => exact ⟨_, a₁, w₁, hq, .pass (x := .inLoop x) rfl (fun _ _ => .inl (by simp)) harr⟩
      | outgrown => exact ⟨_, a₁, w₁, hq, .pass (x := .inLoop x) rfl (fun _ _ => .inl (by simp)) harr⟩
  obtain ⟨e, a', w', hq, harr⟩ := key _ s0 w0 a w rfl h0 hd
  exact ⟨e, a', w', hq, .of_steps (.one (fenced_calm hb hr rfl) stepR_loop) harr⟩
theorem loop_backG {σ : Type} {E : σ → Env} {μ : σ → Nat} {I : σ → World → Prop} {s : σ} (s' : σ) (h0 : I s' w0) (hm : μ s' < μ s) (he : Env.sub (E s') env) :
    TK ⟨P, n, w0, [], none, []⟩ env F own (fun a w => ∃ s' w2, I s' w2 ∧ μ s' < μ s ∧ Hd ⟨P, n, w2, [], none, []⟩ (E s') F [] a w) := fun _ _ hd => ⟨s', w0, h0, hm, hd.drop he (List.nil_sublist _)⟩
/-! ### The end of a function behind a loop -/
abbrev markD (D : Nat) : Deferred := { target := .collected D, args := #[] }
abbrev deadO (D : Nat) : Nat × Obj := (D, .deferred (some []))
theorem ret_mark {c : Cx} {D : Nat} {pre : Own} {fn : Func} {rs : List ResultVar} {vs : List Value} {v : Value} {E : Ending → World → Prop} (hQ : Q .ret = bodyQ c.P fn E .ret) (hr : fn.results = rs.toArray) (hv : ResAll c env pre rs vs) (hp : pack vs = v) (h : ∀ w, Sat c F pre w → E (.returned v) w) (hdf : c.df = [markD D] := by rfl) : TK c env F (pre ++ [deadO D]) (Q .ret) := by
  intro a w hh
  rw [hQ]
  subst hp
  show LeavesInM (FR none) 0 c.P fn a.tmps E a.defers .returning w
  rw [hh.env.defers, hdf]
  have hm : deadO D ∈ pre ++ [deadO D] := List.mem_append_right _ List.mem_cons_self
  have hD := hh.sat.own _ hm
  have hu : Upd D (.deferred (some [])) (.deferred none) (pre ++ [deadO D]) (pre ++ [(D, .deferred none)]) := .app .head
  have hs : Sat c F pre (w.putObj D (.deferred none)) := (hh.sat.upd hu).sub (List.sublist_append_left _ _)
  refine ⟨by simp, .inl ⟨D, _, rfl, run_takeDeferred hD, pack vs, run_results (F := F) (a := a) hr hv ⟨hh.env, hs⟩, h _ hs⟩⟩
theorem end_none {c : Cx} {fn : Func} {E : Ending → World → Prop} (hQ : Q .normal = bodyQ c.P fn E .normal) (hr : fn.results = #[]) (h : ∀ w, Sat c F own w → E (.returned (.tuple #[])) w) (hdf : c.df = [] := by rfl) : TK c env F own (Q .normal) := by
  intro a w hh
  rw [hQ]
  exact leave_none (fn := fn) (hh.env.defers.trans hdf) (run_results (rs := []) (vs := []) hr trivial hh) (h w hh.sat)
/-! ### The loop -/
def zipE : List Tmp → List Value → List (Nat × Value) → List (Nat × Value)
  | p :: ps, v :: vs, e => zipE ps vs ((p, v) :: e)
  | _, _, e => e
theorem zipE_ok {df df' : List Deferred} : ∀ (ps : List Tmp) (vs : List Value) (env : Env) (a : Act), ps.all (fun p => Nat.blt p n) = true → EnvOk n df env a →
    EnvOk n df' (zipE ps vs env) { tmps := (ps.zip vs).foldl (fun t (x : Tmp × Value) => t.setIfInBounds x.1 x.2) a.tmps, defers := df' }
  | [], vs, env, a, _, h => ⟨h.size, rfl, h.get⟩
  | p :: ps, [], env, a, _, h => ⟨h.size, rfl, h.get⟩
  | p :: ps, v :: vs, env, a, hp, h => by
    simp only [List.all_cons, Bool.and_eq_true] at hp
    have := zipE_ok (df' := df') ps vs ((p, v) :: env) (a.put (some p) v) hp.2 (h.put (by simpa [Nat.blt_eq] using hp.1) v)
    simpa [zipE, Act.put] using this
def Begin (P : Program) (l : Nat) (body : Code) (Q : Exit → Act → World → Prop) : Act → World → Prop := fun a w => ∃ w2, (Instr.beginRound l).run P w = .ok () w2 ∧ body.wpIn (FR (some l)) 0 P Q a w2
def SatJ {σ : Type} (c : Cx) (F : Know) (O : σ → Own) (I : Nat → σ → Prop) (l D : Nat) (r : Loop) (k : Nat) (W : World) : Prop := ∃ s, I k s ∧ Sat c F (O s ++ [(l, .loop r), deadO D]) W
def SatX {σ : Type} (c : Cx) (F : Know) (O : σ → Own) (Ix : Code → σ → Prop) (l D : Nat) (r : Loop) (W : World) : Prop := ∃ jump s, Ix jump s ∧ Sat c F (O s ++ [(l, .loop { r with state := .done, pending := some jump }), deadO D]) W
def RQ {σ : Type} (c : Cx) (F : Know) (O : σ → Own) (I : Nat → σ → Prop) (Ix : Code → σ → Prop) (l D : Nat) (r : Loop) (k : Nat) : Exit → Act → World → Prop :=
  roundPost c.P l (fun e W' => (e = .returned (.bool true) ∧ SatJ c F O I l D r (k + 1) W') ∨ (e = .returned (.bool false) ∧ SatX c F O Ix l D r W'))
theorem Sat.ch {c c' : Cx} {w : World} (h : Sat c F own w) (h1 : c'.w0 = c.w0) (h2 : c'.S = c.S) : Sat c' F own w :=
  ⟨by rw [h1, h2]; exact h.keep, h.know, h.away, h.nodup, by rw [h1, h2]; exact h.ids, h.own⟩
theorem k_begin {c : Cx} {l : Nat} {body : Code} {pre post : Own} {r : Loop} (hr : r.state = .ready) (hro : c.ro = some l) (h : T c env F (pre ++ ((l, .loop { r with state := .busy }) :: post)) body Q) : TK c env F (pre ++ ((l, .loop r) :: post)) (Begin c.P l body Q) := by
  intro a w hh
  have hm : (l, Obj.loop r) ∈ pre ++ ((l, .loop r) :: post) := List.mem_append_right _ List.mem_cons_self
  have hu : Upd l (.loop r) (.loop { r with state := .busy }) (pre ++ ((l, .loop r) :: post)) (pre ++ ((l, .loop { r with state := .busy }) :: post)) := .app .head
  refine ⟨_, run_beginRound (hh.sat.own _ hm) hr, ?_⟩
  have h2 := h a _ ⟨hh.env, hh.sat.upd hu⟩
  rw [hro] at h2
  exact h2
section
variable {σ : Type} {c c' : Cx} {O : σ → Own} {I : Nat → σ → Prop} {Ix : Code → σ → Prop} {l D : Nat} {r : Loop} {k : Nat}
theorem endRound_sat {jump : Option Code} {s : σ} {w : World} (hs : Sat c F (O s ++ [(l, .loop { r with state := .busy }), deadO D]) w) :
    ∃ w', (Instr.endRound l jump).run P w = .ok (.bool jump.isNone) w' ∧ Sat c F (O s ++ [(l, .loop { r with state := if jump.isNone then .ready else .done, pending := jump }), deadO D]) w' := by
  have hm : (l, Obj.loop { r with state := .busy }) ∈ O s ++ [(l, .loop { r with state := .busy }), deadO D] := List.mem_append_right _ List.mem_cons_self
  have hl := hs.own _ hm
  have hu : Upd l (.loop { r with state := .busy }) (.loop { r with state := if jump.isNone then .ready else .done, pending := jump }) (O s ++ [(l, .loop { r with state := .busy }), deadO D]) (O s ++ [(l, .loop { r with state := if jump.isNone then .ready else .done, pending := jump }), deadO D]) := .app .head
  exact ⟨_, run_endRound (P := P) jump hl, hs.upd hu⟩
theorem round_next (s : σ) (hr : r.state = .ready ∧ r.pending = none) (hI : I (k + 1) s) (hs : (O s ++ [(l, .loop { r with state := .busy }), deadO D]).Sublist own) (h1 : c.w0 = c'.w0) (h2 : c.S = c'.S) : TK c' env F own (RQ c F O I Ix l D r k .normal) := by
  intro a w hh
  obtain ⟨w', g1, g2⟩ := endRound_sat (P := c.P) (jump := none) ((hh.sat.sub hs).ch h1 h2)
  have e : ({ r with state := if (none : Option Code).isNone then .ready else .done, pending := none } : Loop) = r := by
    obtain ⟨e1, e2⟩ := hr
    cases r
    simp only at e1 e2
    subst e1; subst e2; rfl
  rw [e] at g2
  exact ⟨_, w', g1, .inl ⟨rfl, s, hI, g2⟩⟩
theorem round_exit {id : Nat} (s : σ) (hI : Ix (.exit id) s) (hs : (O s ++ [(l, .loop { r with state := .busy }), deadO D]).Sublist own) (h1 : c.w0 = c'.w0) (h2 : c.S = c'.S) : TK c' env F own (RQ c F O I Ix l D r k (.exit id)) := by
  intro a w hh
  obtain ⟨w', g1, g2⟩ := endRound_sat (P := c.P) (jump := some (.exit id)) ((hh.sat.sub hs).ch h1 h2)
  exact ⟨_, w', g1, .inr ⟨rfl, _, s, hI, g2⟩⟩
end
theorem t_rangeF {S : List Nat} {df : List Deferred} {g : Operand} {ps : List Tmp} {assign body : Code} {gf : FuncId} {caps : List Value} {xs : List (List Value)} {σ : Type} (O : σ → Own) (I : Nat → σ → Prop) (Ix : Code → σ → Prop) (s0 : σ) (X : Nat → List Value) {env0 : Env}
    (hg : Env.ev env g = some (.func (.func gf) #[] caps.toArray)) (hb : HasBody P gf) (hG : Gives P gf caps F xs) (hX : ∀ k (hk : k < xs.length), xs[k] = X k) (hps : ∀ k, (X k).length = ps.length) (hpn : ps.all (fun p => Nat.blt p n) = true)
    (h0 : I 0 s0) (he : Env.sub env0 env) (ho : (O s0).Sublist own)
    (round : ∀ (l D : Nat) (r : Loop) (k : Nat) (s : σ), r.state = .ready ∧ r.pending = none → k < xs.length → I k s →
      T ⟨P, n, w0, S, some l, []⟩ (zipE ps (X k) env0) F (O s ++ [(l, .loop r), deadO D]) assign (Exit.then (Begin P l body (RQ ⟨P, n, w0, S, none, []⟩ F O I Ix l D r k)) (fun _ _ _ => False)))
    (done : ∀ (D : Nat) (s : σ), I xs.length s → TK ⟨P, n, w0, S, none, markD D :: df⟩ env0 F (O s ++ [deadO D]) (Q .normal))
    (stop : ∀ (D : Nat) (jump : Code) (s : σ), Ix jump s → T ⟨P, n, w0, S, none, markD D :: df⟩ env0 F (O s ++ [deadO D]) jump Q) :
    T ⟨P, n, w0, S, none, df⟩ env F own (.rangeFunc g ps.toArray assign body) Q := by
  intro a w hd
  have hd0 := hd.drop he ho
  refine wpIn_rangeFunc fun fn _ => ?_
  obtain ⟨rr, hrr⟩ : ∃ rr : Loop, rr = { state := .ready, pending := none, fn, tmps := a.tmps, params := ps.toArray, assign, body, defers := w.heap.size } := ⟨_, rfl⟩
  have hst : rr.state = .ready ∧ rr.pending = none := by rw [hrr]; exact ⟨rfl, rfl⟩
  obtain ⟨w1, hw1⟩ : ∃ w1, (w.alloc (.deferred (some []))).alloc (.loop rr) = w1 := ⟨_, rfl⟩
  have hs1 : Sat ⟨P, n, w0, S, none, []⟩ F (O s0 ++ [(w.heap.size + 1, .loop rr), deadO w.heap.size]) w1 := by
    have g1 := (hd0.sat.addN (.deferred (some []))).addN (.loop rr)
    rw [hw1, World.size_alloc] at g1
    refine (g1.perm ?_).ch rfl rfl
    exact (List.perm_append_comm (l₁ := [(w.heap.size + 1, Obj.loop rr), deadO w.heap.size]) (l₂ := O s0))
  have hcl : Calls P gf (yieldV (w.heap.size + 1) :: caps).toArray w1 fun e w' => ∃ v, e = .returned v ∧ (SatJ ⟨P, n, w0, S, none, []⟩ F O I (w.heap.size + 1) w.heap.size rr xs.length w' ∨ SatX ⟨P, n, w0, S, none, []⟩ F O Ix (w.heap.size + 1) w.heap.size rr w') := by
    refine hG _ (SatJ ⟨P, n, w0, S, none, []⟩ F O I (w.heap.size + 1) w.heap.size rr) _ w1 ⟨?_, ?_, ?_, ?_⟩ ⟨s0, h0, hs1⟩
    · rintro k W W' ⟨s, hI, hs⟩ hk; exact ⟨s, hI, hs.keep' hk⟩
    · rintro W W' ⟨j, s, hI, hs⟩ hk; exact ⟨j, s, hI, hs.keep' hk⟩
    · rintro k W ⟨s, hI, hs⟩ a u ha; exact hs.know a u ha
    · rintro k hk W ⟨s, hI, hs⟩
      have hm : (w.heap.size + 1, Obj.loop rr) ∈ O s ++ [(w.heap.size + 1, .loop rr), deadO w.heap.size] := List.mem_append_right _ List.mem_cons_self
      have hl := hs.own _ hm
      have hxs : xs[k].length = ps.length := by rw [hX k hk]; exact hps k
      have hpp : rr.params = ps.toArray := by rw [hrr]
      have hy := run_yield (P := P) (args := xs[k].toArray) hl (by rw [hpp, List.size_toArray, List.size_toArray, hxs])
      have ez : (rr.params.zip xs[k].toArray).foldl (fun tmps (x : Tmp × Value) => tmps.setIfInBounds x.1 x.2) rr.tmps = (ps.zip (X k)).foldl (fun t (x : Tmp × Value) => t.setIfInBounds x.1 x.2) a.tmps := by
        have e2 : rr.tmps = a.tmps := by rw [hrr]
        rw [hpp, hX k hk, e2]; simp
      rw [ez] at hy
      refine ⟨_, _, _, _, hy, ?_⟩
      have hT := round _ w.heap.size rr k s hst hk hI _ W ⟨zipE_ok (n := n) (df' := []) ps (X k) env0 a hpn hd0.env, hs.ch rfl rfl⟩
      have ea : rr.assign = assign := by rw [hrr]
      have eb : rr.body = body := by rw [hrr]
      rw [ea, eb]
      refine roundIn_of_wpIn (F := FR none) trivial ?_
      exact hT
  refine ⟨w.heap.size + 1, [markD w.heap.size], w1, { target := .fn (.func gf) caps.toArray, args := #[yieldV (w.heap.size + 1)] }, w1, gf, (yieldV (w.heap.size + 1) :: caps).toArray, w1, ?_, ?_, fun _ _ => trivial, ?_, FR_dep, calls_FR (hcl.mono ?_)⟩
  · rw [← hw1, hrr]; exact run_enterLoop_outer _ _ _ _ _
  · have := run_resolve_func (P := P) (w := w1) (ρ := a.eval) (x := g) (args := #[.const (yieldV (w.heap.size + 1))]) (ts := #[]) (t := 0) (hd.env.eval hg)
    simpa [Act.eval] using this
  · simp only [invoke, hb.call]
    simp
  · rintro e w2 ⟨v, rfl, ⟨s, hI, hs⟩ | ⟨jump, s, hI, hs⟩⟩
    · have hm : (w.heap.size + 1, Obj.loop rr) ∈ O s ++ [(w.heap.size + 1, .loop rr), deadO w.heap.size] := List.mem_append_right _ List.mem_cons_self
      have hu : Upd (w.heap.size + 1) (.loop rr) (.loop { rr with state := .exhausted, pending := none }) (O s ++ [(w.heap.size + 1, .loop rr), deadO w.heap.size]) (O s ++ [(w.heap.size + 1, .loop { rr with state := .exhausted, pending := none }), deadO w.heap.size]) := .app .head
      refine ⟨none, _, by have := run_endLoop (P := P) (hs.own _ hm) (by rw [hst.1]; simp); rw [hst.2] at this; exact this, ?_⟩
      refine done w.heap.size s hI _ _ ⟨⟨hd0.env.size, by simp [hd0.env.defers], hd0.env.get⟩, ?_⟩
      exact ((hs.upd hu).sub ((List.sublist_cons_self _ _).append_left _)).ch rfl rfl
    · have hm : (w.heap.size + 1, Obj.loop { rr with state := .done, pending := some jump }) ∈ O s ++ [(w.heap.size + 1, .loop { rr with state := .done, pending := some jump }), deadO w.heap.size] := List.mem_append_right _ List.mem_cons_self
      have hu : Upd (w.heap.size + 1) (.loop { rr with state := .done, pending := some jump }) (.loop { rr with state := .exhausted, pending := some jump }) (O s ++ [(w.heap.size + 1, .loop { rr with state := .done, pending := some jump }), deadO w.heap.size]) (O s ++ [(w.heap.size + 1, .loop { rr with state := .exhausted, pending := some jump }), deadO w.heap.size]) := .app .head
      refine ⟨some jump, _, by have := run_endLoop (P := P) (hs.own _ hm) (by simp); exact this, ?_⟩
      refine stop w.heap.size jump s hI _ _ ⟨⟨hd0.env.size, by simp [hd0.env.defers], hd0.env.get⟩, ?_⟩
      exact ((hs.upd hu).sub ((List.sublist_cons_self _ _).append_left _)).ch rfl rfl
end
end Go.Eng

/-
  The engine, part 13: slices of structs that are known; appends onto slices that are known.
-/
namespace Go.Eng
open Go
structure RowsK {α : Type} (enc : α → List Value) (sz : Nat) (F : Know) (A : Option Addr) (n : Nat) (xs : List α) : Prop where
  len : n = xs.length
  at_ : ∀ (i : Nat) (x : α), xs[i]? = some x → ∃ a, A = some a ∧ ∀ j u, (enc x)[j]? = some u → F (a.add (i * sz + j)) = some u
section
variable {α : Type} {enc : α → List Value} {sz : Nat} {F F' : Know} {A : Option Addr} {n : Nat} {xs : List α}
theorem RowsK.some (h : RowsK enc sz F A n xs) {i : Nat} (hi : i < xs.length) : ∃ a, A = Option.some a := by
  obtain ⟨a, ha, _⟩ := h.at_ i xs[i] (List.getElem?_eq_getElem hi)
  exact ⟨a, ha⟩
theorem RowsK.mono (h : RowsK enc sz F A n xs) (hF : ∀ a v, F a = Option.some v → F' a = Option.some v) : RowsK enc sz F' A n xs :=
  ⟨h.len, fun i x hx => by obtain ⟨a, h1, h2⟩ := h.at_ i x hx; exact ⟨a, h1, fun j u hu => hF _ _ (h2 j u hu)⟩⟩
theorem RowsK.cells {a : Addr} (h : RowsK enc sz F (Option.some a) n xs) {i : Int} {k : Nat} (hk : i.toNat = k) (hi : k < xs.length) (he : (enc xs[k]).length = sz) : ∀ j, j < sz → F ((a.add (i.toNat * sz)).add j) = (enc xs[k])[j]? := by
  intro j hj
  obtain ⟨b, hb, h1⟩ := h.at_ k xs[k] (List.getElem?_eq_getElem hi)
  cases hb
  rw [add_add, hk, List.getElem?_eq_getElem (by omega)]
  exact h1 j _ (List.getElem?_eq_getElem (by omega))
theorem RowsK.cell {a : Addr} (h : RowsK enc sz F (Option.some a) n xs) {i : Int} {k : Nat} (hk : i.toNat = k) (hi : k < xs.length) {j : Nat} {u : Value} (hu : (enc xs[k])[j]? = Option.some u) : F ((a.add (i.toNat * sz)).add j) = Option.some u := by
  obtain ⟨b, hb, h1⟩ := h.at_ k xs[k] (List.getElem?_eq_getElem hi)
  cases hb
  rw [add_add, hk]
  exact h1 j u hu
theorem RowsK.cell1 {a : Addr} (h : RowsK enc sz F (Option.some a) n xs) {i : Int} {k : Nat} (hk : i.toNat = k) (hi : k < xs.length) {u : Value} (hu : enc xs[k] = [u]) : F (a.add (i.toNat * sz)) = Option.some u := by
  obtain ⟨b, hb, h1⟩ := h.at_ k xs[k] (List.getElem?_eq_getElem hi)
  cases hb
  rw [hk]
  have := h1 0 u (by rw [hu]; rfl)
  rwa [Nat.add_zero] at this
theorem RowsK.nil : RowsK enc sz F A 0 [] := ⟨rfl, fun i x h => by simp at h⟩
theorem RowsK.take (h : RowsK enc sz F A n xs) (k : Nat) (hk : k ≤ n) : RowsK enc sz F A k (xs.take k) := by
  refine ⟨by rw [List.length_take, ← h.len]; omega, fun i x hx => h.at_ i x ?_⟩
  rw [List.getElem?_take] at hx
  split at hx
  · exact hx
  · cases hx
theorem RowsK.drop (h : RowsK enc sz F A n xs) (k : Nat) : RowsK enc sz F (A.map (·.add (k * sz))) (n - k) (xs.drop k) := by
  refine ⟨by rw [List.length_drop, ← h.len], fun i x hx => ?_⟩
  rw [List.getElem?_drop] at hx
  obtain ⟨a, rfl, h1⟩ := h.at_ (k + i) x hx
  refine ⟨_, rfl, fun j u hu => ?_⟩
  rw [add_add, show k * sz + (i * sz + j) = (k + i) * sz + j by rw [Nat.add_mul, Nat.add_assoc]]
  exact h1 j u hu
theorem RowsK.from (h : RowsK enc sz F A n xs) {cap : Nat} (k : Nat) (hk : k ≤ n) (hc : n ≤ cap) : RowsK enc sz F (if cap = k then A else A.map (·.add (k * sz))) (n - k) (xs.drop k) := by
  split
  · have e : xs.drop k = [] := List.drop_eq_nil_of_le (by rw [← h.len]; omega)
    have e2 : n - k = 0 := by omega
    rw [e, e2]; exact RowsK.nil
  · exact h.drop k
def rowsV (enc : α → List Value) (xs : List α) : List Value := xs.flatMap enc
theorem rowsV_len (he : ∀ x : α, (enc x).length = sz) (xs : List α) : (rowsV enc xs).length = xs.length * sz := by
  induction xs with
  | nil => simp [rowsV]
  | cons x r ih =>
    have : rowsV enc (x :: r) = enc x ++ rowsV enc r := rfl
    rw [this, List.length_append, he, ih, List.length_cons, Nat.add_mul, Nat.one_mul, Nat.add_comm]
theorem rowsV_app (xs ys : List α) : rowsV enc (xs ++ ys) = rowsV enc xs ++ rowsV enc ys := by simp [rowsV]
theorem rowsV_one (x : α) : rowsV enc [x] = enc x := by simp [rowsV]
theorem rowsV_get (he : ∀ x : α, (enc x).length = sz) : ∀ (xs : List α) (i : Nat) (x : α) (j : Nat) (u : Value), xs[i]? = Option.some x → (enc x)[j]? = Option.some u → (rowsV enc xs)[i * sz + j]? = Option.some u
  | [], i, x, j, u, h, _ => by simp at h
  | y :: r, 0, x, j, u, h, hu => by
    simp at h; subst h
    have : rowsV enc (y :: r) = enc y ++ rowsV enc r := rfl
    rw [this, Nat.zero_mul, Nat.zero_add, List.getElem?_append_left (List.getElem?_eq_some_iff.1 hu).1]
    exact hu
  | y :: r, i + 1, x, j, u, h, hu => by
    have e : rowsV enc (y :: r) = enc y ++ rowsV enc r := rfl
    rw [e, List.getElem?_append_right (by rw [he, Nat.add_mul]; omega), he, show (i + 1) * sz + j - sz = i * sz + j by rw [Nat.add_mul]; omega]
    exact rowsV_get he r i x j u (by simpa using h) hu
theorem rowsV_inv (he : ∀ x : α, (enc x).length = sz) (hz : 0 < sz) : ∀ (xs : List α) (k : Nat) (u : Value), (rowsV enc xs)[k]? = Option.some u → ∃ x, xs[k / sz]? = Option.some x ∧ (enc x)[k % sz]? = Option.some u
  | [], k, u, h => by simp [rowsV] at h
  | y :: r, k, u, h => by
    have e : rowsV enc (y :: r) = enc y ++ rowsV enc r := rfl
    rw [e] at h
    rcases Nat.lt_or_ge k sz with hk | hk
    · rw [List.getElem?_append_left (by rw [he]; exact hk)] at h
      rw [Nat.div_eq_of_lt hk, Nat.mod_eq_of_lt hk]
      exact ⟨y, rfl, h⟩
    · rw [List.getElem?_append_right (by rw [he]; exact hk), he] at h
      obtain ⟨x, h1, h2⟩ := rowsV_inv he hz r (k - sz) u h
      have e1 : k / sz = (k - sz) / sz + 1 := by
        rw [Nat.div_eq_sub_div hz hk]
      have e2 : k % sz = (k - sz) % sz := by rw [Nat.mod_eq_sub_mod hk]
      rw [e1, e2]
      exact ⟨x, by simpa using h1, h2⟩
theorem RowsK.flat (h : RowsK enc sz F A n xs) (he : ∀ x : α, (enc x).length = sz) (hz : 0 < sz) : ∀ j u, (rowsV enc xs)[j]? = Option.some u → ∃ a, A = Option.some a ∧ F (a.add j) = Option.some u := by
  intro j u hj
  obtain ⟨x, h1, h2⟩ := rowsV_inv he hz xs j u hj
  obtain ⟨a, ha, h3⟩ := h.at_ _ x h1
  refine ⟨a, ha, ?_⟩
  have := h3 _ u h2
  rwa [Nat.div_add_mod' j sz] at this
theorem rowsK_of (he : ∀ x : α, (enc x).length = sz) (hz : 0 < sz) (hF : ∀ j u, (rowsV enc xs)[j]? = Option.some u → ∃ a, A = Option.some a ∧ F (a.add j) = Option.some u) (hn : n = xs.length) : RowsK enc sz F A n xs := by
  refine ⟨hn, fun i x hx => ?_⟩
  have key : ∀ j u, (enc x)[j]? = Option.some u → ∃ a, A = Option.some a ∧ F (a.add (i * sz + j)) = Option.some u := fun j u hu => hF _ u (rowsV_get he xs i x j u hx hu)
  have h0 : 0 < (enc x).length := by rw [he]; exact hz
  obtain ⟨a, ha, _⟩ := key 0 (enc x)[0] (List.getElem?_eq_getElem h0)
  subst ha
  exact ⟨a, rfl, fun j u hu => by obtain ⟨b, hb, h⟩ := key j u hu; cases hb; exact h⟩
theorem SlO.rows {e : TypeId} {v : Value} {b : Own} (h : SlO e sz v n (rowsV enc xs) b) (he : ∀ x : α, (enc x).length = sz) (hz : 0 < sz) {F' : Know} (hF : ∀ p cs t fr k, (p, Obj.cells cs t fr) ∈ b → ∀ u, cs[k]? = Option.some u → F' ⟨p, k, none⟩ = Option.some u) :
    ∃ A cap, v = .slice A n cap ∧ n ≤ cap ∧ cap ≤ maxLen ∧ RowsK enc sz F' A n xs := by
  obtain ⟨A, cap, rfl, h1, h2, h3⟩ := h.later hF
  refine ⟨A, cap, rfl, h1, h2, rowsK_of he hz h3 ?_⟩
  have := h.1
  rw [rowsV_len he] at this
  exact (Nat.eq_of_mul_eq_mul_right hz this).symm
end
section
variable {c : Cx} {env : Env} {F : Know} {own : Own} {Q : Exit → Act → World → Prop}
variable {ty : TypeId} {ps : String} {af : Array Edge} {g : Option (Nat × Bool)} {l : List Oper} {k : Nat} {draw : Bool}
theorem dm {o : Oper} {V : Nat → Value → Obj → Prop} {t : Tmp} (ho : nthO l k = some o) (hB : aloneB l.toArray k = true) (hN : New c F own env o V) (ht : o.dst = some t) (hd : Nat.blt t c.n = true) (hw : wantedB l.toArray env o)
    (h : ∀ p v ob, V p v ob → R c true l.toArray Q (k + 1) ((t, v) :: env) F ((p, ob) :: own)) : R c true l.toArray Q k env F own :=
  r_new (by rw [← nthO_eq]; exact ho) (fun _ => hB) (by rw [ht]; exact hd) hw hN (by rw [ht]; exact h)
theorem new_appK {s x : Operand} {T e : TypeId} {size bytes : Nat} {d : Option Tmp} {B : Option Addr} {A : Option Addr} {n m cp : Nat} {xs news : List Value} (hT : AppT c.P T e size bytes) (hv : Env.ev env s = some (.slice B n n)) (hx : Env.ev env x = some (.slice A m cp))
    (hxl : xs.length = n * size) (hl : news.length = m * size) (h0 : 0 < m) (holds : ∀ w, Sat c F own w → ∀ j u, xs[j]? = some u → ∃ b, B = some b ∧ w.cell? (b.add j) = some u) (hnews : ∀ w, Sat c F own w → ∀ j u, news[j]? = some u → ∃ a, A = some a ∧ w.cell? (a.add j) = some u)
    (hm : (n + m) * bytes ≤ 140737488355328) (hm2 : n + m ≤ maxLen) :
    New c F own env ⟨d, .call { callee := .builtin .append, args := #[s, x], argTypes := #[T, T] }, ty, ps, af, g⟩ (fun p v ob => SlO e size v (n + m) (xs ++ news) [(p, ob)]) := by
  intro a ha w hw
  obtain ⟨i, z, hi, hz, hsz, hby, hzs⟩ := hT.el
  subst hsz; subst hby
  have hpos := hT.pos
  have holds := holds w hw
  have hnews := hnews w hw
  obtain ⟨ad, rfl⟩ : ∃ a, A = some a := by
    have h0 : 0 < news.length := by rw [hl]; exact Nat.mul_pos h0 hpos
    obtain ⟨a, ha, _⟩ := hnews 0 news[0] (List.getElem?_eq_getElem h0)
    exact ⟨a, ha⟩
  have hnw : ∀ j u, news[j]? = some u → w.cell? (ad.add j) = some u := fun j u hj => by
    obtain ⟨a', ha, h2⟩ := hnews j u hj
    cases ha; exact h2
  have hsmall : n + m ≤ 9223372036854775807 := by simp only [maxLen] at hm2; omega
  have hlen : (xs ++ news).length = (n + m) * i.size := by rw [List.length_append, hxl, hl, Nat.add_mul]
  have hSl : ∀ old, SlO e i.size (.slice (some ⟨w.heap.size, 0, none⟩) (n + m) (grownCap w (n + m) old e)) (n + m) (xs ++ news) [(w.heap.size, .cells (xs.toArray ++ news.toArray ++ Builtin.zeroCells z.cells (grownCap w (n + m) old e - (n + m))) e)] := fun old => by
    refine ⟨hlen, .inr ⟨_, _, (Builtin.zeroCells z.cells (grownCap w (n + m) old e - (n + m))).toList, rfl, by simp, grownCap_ge w (n + m) old e, grownCap_le_maxLen w (n + m) old e hm2, ?_⟩⟩
    have hge := grownCap_ge w (n + m) old e
    rw [List.length_append, hlen, Array.length_toList, size_zeroCells, hzs, ← Nat.add_mul]
    congr 1; omega
  have hgr : ∀ old, Grew w (w.drew.alloc (.cells (xs.toArray ++ news.toArray ++ Builtin.zeroCells z.cells (grownCap w (n + m) old e - (n + m))) e)) (some (.cells (xs.toArray ++ news.toArray ++ Builtin.zeroCells z.cells (grownCap w (n + m) old e - (n + m))) e)) := fun old =>
    ⟨rfl, rfl, rfl, by show w.heap.push _ = _; simp⟩
  have hrun : ∃ old, (Builtin.append_ #[T, T] ty #[.slice B n n, .slice (some ad) m cp]).run c.P w = .ok (.slice (some ⟨w.heap.size, 0, none⟩) (n + m) (grownCap w (n + m) old e)) (w.drew.alloc (.cells (xs.toArray ++ news.toArray ++ Builtin.zeroCells z.cells (grownCap w (n + m) old e - (n + m))) e)) := by
    cases B with
    | none =>
      have hn : n = 0 := by
        rcases Nat.eq_zero_or_pos n with h | h
        · exact h
        · have h1 : 0 < xs.length := by rw [hxl]; exact Nat.mul_pos h hpos
          obtain ⟨b, hb, _⟩ := holds 0 xs[0] (List.getElem?_eq_getElem h1)
          cases hb
      subst hn
      have hxs : xs = [] := List.eq_nil_of_length_eq_zero (by simpa using hxl)
      subst hxs
      refine ⟨0, ?_⟩
      have hr := run_append_nil (P := c.P) w T ty e i z hT.ud hi hz ad m cp news hl hnw h0 (by omega) (by simp only [Nat.zero_add] at hm; omega)
      simpa using hr
    | some b =>
      refine ⟨n, ?_⟩
      have ho : ∀ j u, xs[j]? = some u → w.cell? (b.add j) = some u := fun j u hj => by
        obtain ⟨b', hb, h2⟩ := holds j u hj
        cases hb; exact h2
      exact run_append_grow (P := c.P) w T ty e i z hT.ud hi hz b n n xs hxl ho ad m cp news hl hnw (by omega) (by omega) (growslice_fits (by omega) hm)
  obtain ⟨old, hrun⟩ := hrun
  refine ⟨_, _, _, ?_, hgr old, hSl old⟩
  unfold execOp
  simp only [resolve, invoke, builtin, Sem.run_bind, Sem.run_pure, Result.andThen_ok, List.map_toArray, List.map_cons, List.map_nil, ha.eval hv, ha.eval hx]
  rw [hrun]
  rfl
theorem det_slice3 {d : Option Tmp} {t e : TypeId} {sz : Nat} {x hi mx : Operand} {A : Option Addr} {n cap a : Nat} (ht : SliceOf c.P t e sz) (hx : Env.ev env x = some (.slice A n cap))
    (hh : Env.ev env hi = some (.int .i64 (a : Int))) (hm : Env.ev env mx = some (.int .i64 (a : Int))) (b : a ≤ cap) :
    Det c F own env ⟨d, .slice t x none (some hi) (some mx), ty, ps, af, g⟩ (.slice A a a) := by
  have h := det_slice (c := c) (F := F) (own := own) (d := d) (ty := ty) (ps := ps) (af := af) (g := g) (t := t) (lo := none) (hi := some hi) (mx := some mx) (l := none) (h := some (a : Int)) (m := some (a : Int)) ht hx rfl (by simp [bndOf, hh]) (by simp [bndOf, hm]) (by simp) (by simp only [Option.getD_none, Option.getD_some]; omega)
  simp only [Option.getD_none, Option.getD_some, Int.toNat_zero, Nat.sub_zero, Nat.zero_mul, Int.toNat_natCast] at h
  have e : (if a = 0 then A else A.map fun x => x.add 0) = A := by
    split
    · rfl
    · cases A <;> simp [add_zero']
  rw [e] at h
  exact h
theorem det_sliceLo {d : Option Tmp} {t e : TypeId} {sz : Nat} {x lo : Operand} {A : Option Addr} {n cap : Nat} {m : Int} (k : Nat) (ht : SliceOf c.P t e sz) (hx : Env.ev env x = some (.slice A n cap))
    (hl : Env.ev env lo = some (.int .i64 m)) (hk : m = (k : Int)) (b : k ≤ n) (hc : n ≤ cap) :
    Det c F own env ⟨d, .slice t x (some lo) none none, ty, ps, af, g⟩ (.slice (if cap = k then A else A.map (·.add (k * sz))) (n - k) (cap - k)) := by
  subst hk
  have h := det_slice (c := c) (F := F) (own := own) (d := d) (ty := ty) (ps := ps) (af := af) (g := g) (t := t) (lo := some lo) (hi := none) (mx := none) (l := some (k : Int)) (h := none) (m := none) ht hx (by simp [bndOf, hl]) rfl rfl (by simp) (by simp only [Option.getD_none, Option.getD_some]; omega)
  simp only [Option.getD_none, Option.getD_some, Int.toNat_natCast] at h
  exact h
theorem oAppH {s x : Operand} {T e : TypeId} {size bytes : Nat} {b post : Own} {v : Value} {n : Nat} {xs : List Value} {A : Option Addr} {m cp : Nat} {news : List Value} {t : Tmp} (hB : draw = true → aloneB l.toArray k = true)
    (ho : nthO l k = some ⟨some t, .call { callee := .builtin .append, args := #[s, x], argTypes := #[T, T] }, ty, ps, af, g⟩) (hT : AppT c.P T e size bytes) (hv : Env.ev env s = some v) (hx : Env.ev env x = some (.slice A m cp))
    (hd : Nat.blt t c.n = true) (hw : wantedB l.toArray env ⟨some t, .call { callee := .builtin .append, args := #[s, x], argTypes := #[T, T] }, ty, ps, af, g⟩)
    (hS : SlO e size v n xs b) (hl : news.length = m * size) (hnews : ∀ w, Sat c F (post ++ b) w → ∀ j u, news[j]? = some u → ∃ a, A = some a ∧ w.cell? (a.add j) = some u) (h1 : ∀ u ∈ news, u.oneCell' = true)
    (hm : (n + m) * bytes ≤ 140737488355328) (hm2 : n + m ≤ maxLen)
    (hn : ∀ A' cp' b', SlO e size (.slice A' (n + m) cp') (n + m) (xs ++ news) b' → R c draw l.toArray Q (k + 1) ((t, .slice A' (n + m) cp') :: env) F (post ++ b')) : R c draw l.toArray Q k env F (b ++ post) :=
  tk_perm List.perm_append_comm (oAppS hB ho hT hv hx hd hw hS hl hnews h1 hm hm2 hn)
end
end Go.Eng

/-
  The frame of a law: its arguments opened; what holds behind the call out of what the walk shows.
-/
namespace Go.Eng
open Go Go.ChangeShapes Go.WideShapes Go.RowKit
section
variable {H : Type} {enc : TypeId × Value → H} {P : Program} {w : World} {base : Nat} {spare : Nat → Bool} {held : Bool}
theorem trodAll_carry (hl : laidOutB P = true) {W W' : World} (hb : Below W.heap.size W W') : ∀ {ts : List TypeId} {vs : List Value} {ds : List (DataW H)} {ps : List MemPlace}, ts.all (fun t => P.readableRec t && decide (t < P.types.size)) = true →
    DataW.TrodAll enc P W 0 (fun _ => true) true ts vs ds ps → (∀ x ∈ ps, x.block < W.heap.size) → DataW.TrodAll enc P W' 0 (fun b => decide (b < W.heap.size)) true ts vs ds ps
  | [], [], [], _, _, h, _ => h
  | t :: ts, v :: vs, d :: ds, ps, hr, ⟨p, q, h1, h2, e⟩, hlt => by
    simp only [List.all_cons, Bool.and_eq_true, decide_eq_true_eq] at hr
    exact ⟨p, q, Below.trod hl hr.1.1 hr.1.2 h1 hb (fun x hx => hlt x (by rw [e]; exact List.mem_append_left _ hx)),
      trodAll_carry hl hb (by simpa using hr.2) h2 (fun x hx => hlt x (by rw [e]; exact List.mem_append_right _ hx)), e⟩
theorem post_law {f : Func} {s : ChangeSpec} {W W' : World} {args : Array Value} {ds : List (DataW H)} {before : List MemPlace} {tb : TypeId} {v : Value}
    (hl : laidOutB P = true) (hrd : f.params.toList.all (fun t => P.readableRec t && decide (t < P.types.size)) = true) (hr : f.resultTypes = #[tb]) (hb : P.underlying tb = some .bool) (hv : s.vars = [])
    (hW : DataW.Whole enc P f.params.toList s.vars false W args.toList ds [] before) (hs : s.fn H (ds ++ []) = { results := [.lit (.bool true)], args := ds }) (hk : Keep [] W W') (he : v = .bool true) :
    s.post enc P f false true false false W args v W' := by
  subst he
  have hlt := fun p hp => hW.lt p hp
  have hW0 := hW
  obtain ⟨p, q, hA, hV, rfl, _, _⟩ := hW
  rw [hv] at hV
  obtain ⟨_, rfl⟩ := trodVars_none hV
  have hbl : Below W.heap.size W W' := ⟨hk.os, hk.tape, hk.output, hk.size, fun k hk' => hk.old k hk' (by simp)⟩
  refine ⟨ds, [], p ++ [], [], p, [], hW0, ?_, ?_, ?_, ⟨hk.os, hk.output, fun i hi => ?_⟩, nofun⟩
  · rw [hs, hr]; exact trodAll_mk1 (shut_bool hb true)
  · rw [hs]
    exact trodAll_carry hl hbl hrd hA fun x hx => hlt x (List.mem_append_left _ hx)
  · rw [hs, hv]; rfl
  · rw [hk.old i hi (by simp)]
    cases W.heap[i]? with
    | none => rfl
    | some o => cases o <;> first | exact ⟨rfl, rfl, rfl, fun _ _ => rfl⟩ | exact .inr ⟨rfl, rfl⟩ | rfl
end
end Go.Eng

/-
  The engine, part 6: bits.
-/
namespace Go.Eng
open Go
theorem bv_clear (x : BitVec 64) (j : Nat) : (x &&& ~~~(BitVec.ofNat 64 (2 ^ j - 1))).toNat = x.toNat / 2 ^ j * 2 ^ j := by
  have e : x &&& ~~~(BitVec.ofNat 64 (2 ^ j - 1)) = (x >>> j) <<< j := by
    apply BitVec.eq_of_getLsbD_eq
    intro i hi
    simp only [BitVec.getLsbD_and, BitVec.getLsbD_not, hi, decide_true, Bool.true_and, BitVec.getLsbD_ofNat, Nat.testBit_two_pow_sub_one, BitVec.getLsbD_shiftLeft, BitVec.getLsbD_ushiftRight]
    by_cases h : i < j
    · simp [h]
    · simp [h]
      rw [show j + (i - j) = i by omega]
  rw [e, BitVec.toNat_shiftLeft, BitVec.toNat_ushiftRight, Nat.shiftRight_eq_div_pow, Nat.shiftLeft_eq, Nat.mod_eq_of_lt]
  exact Nat.lt_of_le_of_lt (Nat.div_mul_le_self _ _) x.isLt
theorem wrap64_zero {n : Nat} (h : n < 18446744073709551616) : IntKind.i64.wrap n = 0 ↔ n = 0 := by
  rw [IntKind.wrap_i64]; omega
theorem andNot_lit (m : Int) (hm : -9223372036854775808 ≤ m ∧ m ≤ 9223372036854775807) (j : Nat) (hj : j ≤ 62) : bitsOf .andNot .i64 m ((2 ^ j - 1 : Nat) : Int) = 0 ↔ 0 ≤ m ∧ m < (2 ^ j : Nat) := by
  have hb : bitsOf .andNot .i64 m ((2 ^ j - 1 : Nat) : Int) = IntKind.i64.wrap ((BitVec.ofInt 64 m &&& ~~~(BitVec.ofNat 64 (2 ^ j - 1))).toNat : Nat) := by
    simp only [bitsOf]
    congr 2
  have hp : (2 : Nat) ^ j ≤ 2 ^ 62 := Nat.pow_le_pow_right (by decide) hj
  have hp0 : 0 < (2 : Nat) ^ j := Nat.pow_pos (by decide)
  have hx : (BitVec.ofInt 64 m).toNat = (m % 18446744073709551616).toNat := by simp [BitVec.toNat_ofInt]
  rw [hb, wrap64_zero (BitVec.isLt _), bv_clear _ _, hx]
  generalize (2 : Nat) ^ j = q at *
  have e : (m % 18446744073709551616).toNat / q * q = 0 ↔ (m % 18446744073709551616).toNat < q := by
    rw [Nat.mul_eq_zero, Nat.div_eq_zero_iff]
    omega
  rw [e]
  omega
theorem andNot255 (m : Int) (hm : -9223372036854775808 ≤ m ∧ m ≤ 9223372036854775807) : bitsOf .andNot .i64 m 255 = 0 ↔ 0 ≤ m ∧ m ≤ 255 := by
  have := andNot_lit m hm 8 (by decide)
  simp at this
  rw [this]; omega
theorem andNot7 (m : Int) (hm : -9223372036854775808 ≤ m ∧ m ≤ 9223372036854775807) : bitsOf .andNot .i64 m 7 = 0 ↔ 0 ≤ m ∧ m ≤ 7 := by
  have := andNot_lit m hm 3 (by decide)
  simp at this
  rw [this]; omega
theorem bit_shift {m k : Int} (hk : 0 ≤ k ∧ k ≤ 62) : m.fdiv (2 ^ (min k.toNat 64)) = m / 2 ^ k.toNat := by
  rw [show min k.toNat 64 = k.toNat by omega, Int.fdiv_eq_ediv_of_nonneg _ (Int.le_of_lt (Int.pow_pos (by decide)))]
theorem and1 {m : Int} (hm : 0 ≤ m ∧ m ≤ 9223372036854775807) : bitsOf .and .i64 m 1 = m % 2 := by
  obtain ⟨n, rfl⟩ := Int.eq_ofNat_of_zero_le hm.1
  have e : (BitVec.ofInt 64 (n : Int) &&& BitVec.ofInt 64 1).toNat = n % 2 := by
    have : n < 18446744073709551616 := by omega
    simp [BitVec.toNat_and, Nat.and_one_is_mod]
  have h : bitsOf .and .i64 (n : Int) 1 = IntKind.i64.wrap ((BitVec.ofInt 64 (n : Int) &&& BitVec.ofInt 64 1).toNat : Int) := rfl
  rw [h, e]
  exact IntWalk.i64_in _ (by omega)
end Go.Eng

/-
  The engine, part 14: a barrier that may come up ahead of operations that it is unordered with.
-/
namespace Go.Eng
open Go
def plainOp : Op → Bool
  | .move _ | .assign _ | .pick .. | .load .. | .nilCheck _ | .binOp .. | .unOp .. | .convert .. | .slice .. | .fieldAddr .. | .field .. | .indexAddr .. | .index .. | .extract .. => true
  | _ => false
theorem run_value {P : Program} {w w' : World} {s : Sem Value} {nx : Next} (h : (do let x ← s; pure (Next.value x) : Sem Next).run P w = .ok nx w') : ∃ v, nx = .value v := by
  simp only [Sem.run_bind] at h
  generalize s.run P w = r at h
  cases r with
  | ok v w1 => simp only [Result.andThen_ok, Sem.run_pure] at h; injection h with h1 h2; exact ⟨v, h1.symm⟩
  | halt x w1 => simp [Result.andThen] at h
theorem plain_value {P : Program} {w w' : World} {ρ : Operand → Value} {o : Oper} {nx : Next} (hp : plainOp o.op = true) (h : (execOp ρ o).run P w = .ok nx w') : ∃ v, nx = .value v := by
  unfold execOp at h
  cases ho : o.op <;> rw [ho] at hp h <;> simp only [plainOp, Bool.false_eq_true] at hp <;> dsimp only at h
  case move x => simp only [Sem.run_pure] at h; injection h with h1 h2; exact ⟨_, h1.symm⟩
  case assign x => simp only [Sem.run_pure] at h; injection h with h1 h2; exact ⟨_, h1.symm⟩
  case pick c a b =>
    simp only [Sem.run_bind] at h
    generalize (asBool (ρ c)).run P w = r at h
    cases r with
    | ok v w1 => simp only [Result.andThen_ok, Sem.run_pure] at h; injection h with h1 h2; exact ⟨_, h1.symm⟩
    | halt x w1 => simp [Result.andThen] at h
  case nilCheck x =>
    split at h
    · simp [runtimePanic] at h
    · simp [runtimePanic] at h
    · simp [runtimePanic] at h
    · split at h
      · simp [runtimePanic] at h
      · simp only [Sem.run_bind] at h
        generalize Sem.run P program _ = r at h
        cases r with
        | halt x w1 => simp [Result.andThen] at h
        | ok p w1 =>
          simp only [Result.andThen_ok] at h
          generalize Sem.run P (nilAhead _ _ _ _) _ = r2 at h
          cases r2 with
          | halt x w1 => simp [Result.andThen] at h
          | ok b w2 =>
            simp only [Result.andThen_ok] at h
            split at h
            · simp only [Sem.run_bind, unsupported, Sem.run_halt] at h
              simp [Result.andThen] at h
            · simp only [Sem.run_pure] at h; injection h with h1 h2; exact ⟨_, h1.symm⟩
      · simp only [Sem.run_pure] at h; injection h with h1 h2; exact ⟨_, h1.symm⟩
    · simp only [Sem.run_pure] at h; injection h with h1 h2; exact ⟨_, h1.symm⟩
  all_goals exact run_value h
section
variable {P : Program} {ops : Array Oper} {md : Region.Mode} {C CP : World → Prop} {n0 : Nat} {kd : Nat → Kind} {ro : Option Nat}
def isDet : Kind → Bool
  | .det => true
  | _ => false
def BarOk (P : Program) (ops : Array Oper) (C : World → Prop) (n0 : Nat) (oj : Oper) (a : Act) (w : World) (L : TNews) : Prop :=
  Region.wanted oj (yielded ops a.tmps) = true ∧ ∃ nx v w', (execOp a.eval oj).run P w = .ok nx w' ∧ ((nx = .value v) ∨ (nx = .skip ∧ v = undef)) ∧ C w' ∧ HoldsL n0 L w'
def barPlain (md : Region.Mode) (ops : Array Oper) (f j : Nat) (oj : Oper) (kd : Nat → Kind) : Bool :=
  let S := clos md ops f (dmask md oj)
  (List.range j).all fun i => match ops[i]? with
    | none => false
    | some oi => !(oi.after.any fun e => Region.binds md e && e.on == j) && (S.testBit i || (plainOp oi.op && isDet (kd i) && oi.apart ops oj))
theorem wpAny_after {f j r : Nat} {oj : Oper} {Z : ZK} {Q : Exit → Act → World → Prop} {vj : Value} {wp w' : World} {nxj : Next} (hj : ops[j]? = some oj) (hB1 : barB md ops f (j + 1) = true) (hsel : Region.noSelect ops = true)
    (hpl : barPlain md ops f j oj kd = true) (hC' : C w') (hrun' : (nxj = .value vj) ∨ (nxj = .skip ∧ vj = undef))
    (hZ : ∀ a L, HoldsL n0 L wp → HoldsL n0 L w' → Z a L → (execOp a.eval oj).run P wp = .ok nxj w' → Region.wanted oj (yielded ops a.tmps) = true → wpAnyIn (FR ro) 0 P md ops Q r (lk ops.size (j + 1)) (a.put oj.dst vj) w') :
    ∀ (fuel : Nat) (listed : Array Bool) (a : Act) (L : TNews), listed.size = ops.size → Dn md ops listed → (∀ i, j ≤ i → i < ops.size → listed.getD i true = false) → (∀ e ∈ oj.after, Region.binds md e = true → listed.getD e.on false = true) →
      Few j listed fuel → HoldsL n0 L wp → HoldsL n0 L w' → (execOp a.eval oj).run P wp = .ok nxj w' → Region.wanted oj (yielded ops a.tmps) = true → wpAnyG P md ops C n0 kd j Z fuel listed a L →
      wpAnyIn (FR ro) 0 P md ops Q (fuel + r) (listed.setIfInBounds j true) (a.put oj.dst vj) w' := by
  have hjn : j < ops.size := (Array.getElem?_eq_some_iff.1 hj).1
  intro fuel
  induction fuel with
  | zero =>
    intro listed a L hsz hd hup hw hfew hL hL' hrun hwant h
    have : listed.setIfInBounds j true = lk ops.size (j + 1) := by
      rw [← lk_step]
      congr 1
      apply Array.ext
      · rw [hsz, lk_size]
      · intro i h1 h2
        have hin : i < ops.size := by rw [← hsz]; exact h1
        have e2 : (lk ops.size j)[i] = decide (i < j) := by simp [lk]
        rw [e2]
        rcases Nat.lt_or_ge i j with hi | hi
        · have := hfew [i]
          simp only [List.nodup_cons, List.not_mem_nil, not_false_eq_true, List.nodup_nil, and_self, List.mem_cons, or_false, forall_eq, List.length_cons, List.length_nil, Nat.zero_add, Nat.le_zero_eq, Nat.one_ne_zero, imp_false, true_implies, not_and] at this
          have := this hi
          have e3 : listed.getD i true = listed[i] := by simp [h1]
          rw [e3] at this
          simp [hi]
          simpa using this
        · have := hup i hi hin
          have e3 : listed.getD i true = listed[i] := by simp [h1]
          rw [e3] at this
          rw [this]
          simp; omega
    rw [this]
    have := hZ a L hL hL' h hrun hwant
    simpa using this
  | succ fuel ih =>
    intro listed a L hsz hd hup hw hfew hL hL' hrun hwant h
    obtain ⟨hne, hall⟩ := h ⟨w', hC', hL'⟩
    have hjr : j ∈ Region.ready md ops listed := mem_ready.2 ⟨hup j (Nat.le_refl _) hjn, oj, hj, hw⟩
    have hd2 : Dn md ops (listed.setIfInBounds j true) := hd.step hjr
    have hjl : (listed.setIfInBounds j true).getD j false = true := by have : j < listed.size := by omega
                                                                       simp [this]
    -- an operation below j has not come up yet
    obtain ⟨x, hx⟩ := List.exists_mem_of_ne_nil _ hne
    obtain ⟨hx1, hxj⟩ := mem_sready.1 hx
    have hnf : ¬ ∀ i, i < j + 1 → (listed.setIfInBounds j true).getD i false = true := by
      intro hf
      have h0 := (mem_ready.1 hx1).1
      have h1 := hf x (by omega)
      rw [getD_set_ne false (by omega)] at h1
      have hxn : x < listed.size := by omega
      simp [hxn] at h0 h1
      rw [h0] at h1; cases h1
    have harr : fuel + 1 + r = (fuel + r) + 1 := by omega
    rw [harr]
    refine ⟨fun h0 => ?_, fun i hi => ?_⟩
    · exfalso
      have := ready_mono (i := j) hx1 (by omega)
      rw [h0] at this; cases this
    · have hi0 := mem_ready.1 hi
      have hij : i ≠ j := by
        rintro rfl
        have := hi0.1
        rw [getD_set_self] at this; cases this
      have him : i < j := by
        rcases Nat.lt_or_ge i (j + 1) with h' | h'
        · omega
        · refine (hnf (barB_spec hB1 (by simpa using hsz) hd2 (fun i' hi' hin' => ?_) hi h')).elim
          rw [getD_set_ne true (by omega)]; exact hup i' (by omega) hin'
      obtain ⟨hun, o, ho, hwt⟩ := hi0
      rw [getD_set_ne true (Ne.symm hij)] at hun
      have hpi := List.all_eq_true.1 hpl i (List.mem_range.2 him)
      simp only [ho, Bool.and_eq_true, Bool.or_eq_true, Bool.not_eq_true'] at hpi
      obtain ⟨hnw, hpi⟩ := hpi
      have hirl : i ∈ Region.ready md ops listed := by
        refine mem_ready.2 ⟨hun, o, ho, fun e he hb => ?_⟩
        have := hwt e he hb
        have hne' : j ≠ e.on := by
          intro e'
          have h1 : (o.after.any fun e => Region.binds md e && e.on == j) = true := Array.any_eq_true'.2 ⟨e, he, by simp [hb, e']⟩
          rw [hnw] at h1; cases h1
        rwa [getD_set_ne false hne'] at this
      have hpl2 : plainOp o.op = true ∧ isDet (kd i) = true ∧ o.apart ops oj = true := by
        rcases hpi with hpi | hpi
        · exfalso
          have hl : Listed listed (dmask md oj) := by
            intro b hb
            obtain ⟨e, he, hbi, rfl⟩ := dmask_spec md oj b hb
            exact hw e he hbi
          have := clos_listed hd f _ hl i hpi
          have hin : i < listed.size := by omega
          simp [hin] at this hun
          rw [hun] at this; cases this
        · exact ⟨hpi.1.1, hpi.1.2, hpi.2⟩
      obtain ⟨hp1, hp2, hp3⟩ := hpl2
      obtain ⟨d1, d2, d3⟩ := Oper.apart_spec hp3
      obtain ⟨o', ho', hg⟩ := hall i (mem_sready.2 ⟨hirl, him⟩)
      rw [ho] at ho'; cases ho'
      have hg := hg ⟨w', hC', hL'⟩
      have hselo : ∀ cs b, o.op ≠ .select cs b := fun cs b => Region.noSelect_spec hsel i o cs b ho
      have hselj : ∀ cs b, oj.op ≠ .select cs b := fun cs b => Region.noSelect_spec hsel j oj cs b hj
      have next : ∀ (v : Value) (L2 : TNews), HoldsL n0 L2 wp → HoldsL n0 L2 w' → wpAnyG P md ops C n0 kd j Z fuel (listed.setIfInBounds i true) (a.put o.dst v) L2 → wpAnyIn (FR ro) 0 P md ops Q (fuel + r) ((listed.setIfInBounds j true).setIfInBounds i true) ((a.put oj.dst vj).put o.dst v) w' := by
        intro v L2 hL2 hL2' h'
        rw [Array.setIfInBounds_comm _ _ (Ne.symm hij), Act.put_comm a vj v (fun d hd he => d2 d he hd)]
        refine ih _ _ L2 (by simpa using hsz) (hd.step hirl) (fun i' hi' hin' => ?_) (fun e he hb => getD_set_true (hw e he hb)) (hfew.step him hun) hL2 hL2' ?_ ?_ h'
        · rw [getD_set_ne true (by omega)]; exact hup i' hi' hin'
        · rw [execOp_put (ops := ops) oj hselj a o.dst v d1]; exact hrun
        · rw [wanted_put oj a o.dst v d1]; exact hwant
      unfold wpOpIn
      simp only [ho]
      rw [wanted_put o a oj.dst vj d3]
      split
      · rename_i hwn
        simp only [hwn, if_true] at hg
        obtain ⟨S, hS, hk⟩ := hg
        have hcl : CL ops C n0 o L w' := CL_of hC' hL'
        cases hkd : kd i with
        | new => rw [hkd] at hp2; cases hp2
        | mem φ => rw [hkd] at hp2; cases hp2
        | det =>
          rw [hkd] at hS
          obtain ⟨v, hv, hSv⟩ := hS
          have hdu := hv w' hcl
          have hK := hk v [] ((hSv v []).2 rfl)
          have hK' : wpAnyG P md ops C n0 kd j Z fuel (listed.setIfInBounds i true) (a.put o.dst v) L := by simpa [tagL] using hK
          refine ⟨fun _ _ => trivial, ?_⟩
          have e1 : execOp (a.put oj.dst vj).eval o = execOp a.eval o := execOp_put (ops := ops) o hselo a oj.dst vj d3
          rw [semAt_run (by rw [e1]; exact hdu.not), e1]
          have hpv := fun nx w2 (hh : (execOp a.eval o).run P w' = .ok nx w2) => plain_value hp1 hh
          generalize (execOp a.eval o).run P w' = res at *
          cases res with
          | halt x w2 => simp only [detUpon] at hdu
          | ok nx w2 =>
            obtain ⟨u, rfl⟩ := hpv nx w2 rfl
            simp only [detUpon] at hdu
            obtain ⟨rfl, rfl⟩ := hdu
            simp only [Oper.uponIn]
            exact next _ _ hL hL' hK'
      · rename_i hwn
        simp only [hwn, Bool.false_eq_true, if_false] at hg
        exact ⟨fun _ _ => trivial, next _ _ hL hL' hg⟩
theorem after_run {f j : Nat} {oj : Oper} {Z : ZK} {w : World} (hsel : Region.noSelect ops = true) (hj : ops[j]? = some oj)
    (hpl : barPlain md ops f j oj kd = true) (hC' : C w) :
    ∀ (fuel : Nat) (listed : Array Bool) (a : Act) (L : TNews), listed.size = ops.size → Dn md ops listed → (∀ i, j ≤ i → i < ops.size → listed.getD i true = false) → (∀ e ∈ oj.after, Region.binds md e = true → listed.getD e.on false = true) →
      HoldsL n0 L w → wpAnyG P md ops C n0 kd j Z fuel listed a L → ∃ a', Z a' L ∧ execOp a'.eval oj = execOp a.eval oj ∧ Region.wanted oj (yielded ops a'.tmps) = Region.wanted oj (yielded ops a.tmps) := by
  have hjn : j < ops.size := (Array.getElem?_eq_some_iff.1 hj).1
  intro fuel
  induction fuel with
  | zero => intro listed a L _ _ _ _ _ h; exact ⟨a, h, rfl, rfl⟩
  | succ fuel ih =>
    intro listed a L hsz hd hup hw hL h
    obtain ⟨hne, hall⟩ := h ⟨w, hC', hL⟩
    obtain ⟨i, hi⟩ := List.exists_mem_of_ne_nil _ hne
    obtain ⟨hi1, him⟩ := mem_sready.1 hi
    obtain ⟨hun, o, ho, hwt⟩ := mem_ready.1 hi1
    have hpi := List.all_eq_true.1 hpl i (List.mem_range.2 him)
    simp only [ho, Bool.and_eq_true, Bool.or_eq_true, Bool.not_eq_true'] at hpi
    obtain ⟨hnw, hpi⟩ := hpi
    have hpl2 : plainOp o.op = true ∧ isDet (kd i) = true ∧ o.apart ops oj = true := by
      rcases hpi with hpi | hpi
      · exfalso
        have hl : Listed listed (dmask md oj) := by
          intro b hb
          obtain ⟨e, he, hbi, rfl⟩ := dmask_spec md oj b hb
          exact hw e he hbi
        have := clos_listed hd f _ hl i hpi
        have hin : i < listed.size := by omega
        simp [hin] at this hun
        rw [hun] at this; cases this
      · exact ⟨hpi.1.1, hpi.1.2, hpi.2⟩
    obtain ⟨hp1, hp2, hp3⟩ := hpl2
    obtain ⟨d1, d2, d3⟩ := Oper.apart_spec hp3
    obtain ⟨o', ho', hg⟩ := hall i hi
    rw [ho] at ho'; cases ho'
    have hg := hg ⟨w, hC', hL⟩
    have hselj : ∀ cs b, oj.op ≠ .select cs b := fun cs b => Region.noSelect_spec hsel j oj cs b hj
    have fin : ∀ v, wpAnyG P md ops C n0 kd j Z fuel (listed.setIfInBounds i true) (a.put o.dst v) L → ∃ a', Z a' L ∧ execOp a'.eval oj = execOp a.eval oj ∧ Region.wanted oj (yielded ops a'.tmps) = Region.wanted oj (yielded ops a.tmps) := by
      intro v h'
      obtain ⟨a', h1, h2, h3⟩ := ih (listed.setIfInBounds i true) (a.put o.dst v) L (by simpa using hsz) (hd.step hi1) (fun i' hi' hin' => by rw [getD_set_ne true (by omega)]; exact hup i' hi' hin') (fun e he hb => getD_set_true (hw e he hb)) hL h'
      exact ⟨a', h1, by rw [h2, execOp_put (ops := ops) oj hselj a o.dst v d1], by rw [h3, wanted_put oj a o.dst v d1]⟩
    split at hg
    · obtain ⟨S, hS, hk⟩ := hg
      cases hkd : kd i with
      | new => rw [hkd] at hp2; cases hp2
      | mem φ => rw [hkd] at hp2; cases hp2
      | det =>
        rw [hkd] at hS
        obtain ⟨v, hv, hSv⟩ := hS
        exact fin v (by simpa [tagL] using hk v [] ((hSv v []).2 rfl))
    · exact fin undef hg
theorem wpAny_bar {f j r : Nat} {oj : Oper} {Z : ZK} {Q : Exit → Act → World → Prop} (hj : ops[j]? = some oj) (hB1 : barB md ops f (j + 1) = true) (hsel : Region.noSelect ops = true) (hdep : oj.after.all (fun e => !Region.binds md e || decide (e.on < j)) = true)
    (hpl : barPlain md ops f j oj kd = true) (hC : ∀ w w', C w → Keep [] w w' → C w') (hn : ∀ w, C w → n0 ≤ w.heap.size) (hCP : ∀ w w', CP w → Keep [] w w' → CP w') (hCPC : ∀ w, CP w → C w) (hnd : ∀ d, oj.op ≠ .defer d)
    (hZ : ∀ a L w, CP w → HoldsL n0 L w → Z a L → wpOpIn (FR ro) 0 P ops Q j (wpAnyIn (FR ro) 0 P md ops Q r (lk ops.size (j + 1))) a w) (hZ2 : ∀ a L w, CP w → HoldsL n0 L w → Z a L → BarOk P ops C n0 oj a w L) :
    ∀ (fuel : Nat) (listed : Array Bool) (a : Act) (L : TNews) (w : World), listed.size = ops.size → Dn md ops listed → (∀ i, j ≤ i → i < ops.size → listed.getD i true = false) →
      Few j listed fuel → CP w → HoldsL n0 L w → wpAnyG P md ops C n0 kd j Z fuel listed a L → wpAnyIn (FR ro) 0 P md ops Q (fuel + (r + 1)) listed a w := by
  have hjn : j < ops.size := (Array.getElem?_eq_some_iff.1 hj).1
  have late : ∀ (listed : Array Bool) (i : Nat), listed.size = ops.size → Dn md ops listed → (∀ i, j ≤ i → i < ops.size → listed.getD i true = false) → i ∈ Region.ready md ops listed → i ≤ j := by
    intro listed i hsz hd hup hi
    rcases Nat.lt_or_ge i (j + 1) with h' | h'
    · omega
    · have h1 := barB_spec hB1 hsz hd (fun i' hi' hin' => hup i' (by omega) hin') hi h' j (by omega)
      have h2 := hup j (Nat.le_refl _) hjn
      have : j < listed.size := by omega
      simp [this] at h1 h2
      rw [h1] at h2; cases h2
  intro fuel
  induction fuel with
  | zero =>
    intro listed a L w hsz hd hup hfew hCw hL h
    have hlk : listed = lk ops.size j := by
      apply Array.ext
      · rw [hsz, lk_size]
      · intro i h1 h2
        have hin : i < ops.size := by rw [← hsz]; exact h1
        have e2 : (lk ops.size j)[i] = decide (i < j) := by simp [lk]
        rw [e2]
        rcases Nat.lt_or_ge i j with hi | hi
        · have := hfew [i]
          simp only [List.nodup_cons, List.not_mem_nil, not_false_eq_true, List.nodup_nil, and_self, List.mem_cons, or_false, forall_eq, List.length_cons, List.length_nil, Nat.zero_add, Nat.le_zero_eq, Nat.one_ne_zero, imp_false, true_implies, not_and] at this
          have := this hi
          have e3 : listed.getD i true = listed[i] := by simp [h1]
          rw [e3] at this
          simp [hi]
          simpa using this
        · have := hup i hi hin
          have e3 : listed.getD i true = listed[i] := by simp [h1]
          rw [e3] at this
          rw [this]
          simp; omega
    have hjr : j ∈ Region.ready md ops listed := by
      refine mem_ready.2 ⟨hup j (Nat.le_refl _) hjn, oj, hj, fun e he hb => ?_⟩
      have := Array.all_eq_true_iff_forall_mem.1 hdep e he
      simp only [hb, Bool.not_true, Bool.false_or, decide_eq_true_eq] at this
      rw [hlk, lk_get false (by omega)]
      simpa using this
    rw [Nat.zero_add]
    refine ⟨fun h0 => (by rw [h0] at hjr; cases hjr), fun i hi => ?_⟩
    have hle := late listed i hsz hd hup hi
    have hij : i = j := by
      rcases Nat.lt_or_ge i j with h' | h'
      · exfalso
        have := (mem_ready.1 hi).1
        rw [hlk, lk_get true (by omega)] at this
        simp at this; omega
      · omega
    subst hij
    rw [hlk, lk_step]
    exact hZ a L w hCw hL h
  | succ fuel ih =>
    intro listed a L w hsz hd hup hfew hCw hL h
    have hG := h
    obtain ⟨hne, hall⟩ := h ⟨w, hCPC w hCw, hL⟩
    have harr : fuel + 1 + (r + 1) = (fuel + (r + 1)) + 1 := by omega
    rw [harr]
    refine ⟨fun h0 => ?_, fun i hi => ?_⟩
    · exfalso; apply hne; unfold sready; rw [h0]; rfl
    · have hle := late listed i hsz hd hup hi
      rcases Nat.lt_or_ge i j with him | hge
      · obtain ⟨o, ho, hg⟩ := hall i (mem_sready.2 ⟨hi, him⟩)
        have hiun := (mem_ready.1 hi).1
        have next : ∀ a' L' w', CP w' → HoldsL n0 L' w' → wpAnyG P md ops C n0 kd j Z fuel (listed.setIfInBounds i true) a' L' → wpAnyIn (FR ro) 0 P md ops Q (fuel + (r + 1)) (listed.setIfInBounds i true) a' w' := by
          intro a' L' w' hC' hL' h'
          refine ih _ a' L' w' (by simpa using hsz) (hd.step hi) (fun i' hi' hin' => ?_) (hfew.step him hiun) hC' hL' h'
          rw [getD_set_ne true (by omega)]; exact hup i' hi' hin'
        have hg := hg ⟨w, hCPC w hCw, hL⟩
        unfold wpOpIn
        simp only [ho]
        split
        · rename_i hw
          simp only [hw, if_true] at hg
          refine ⟨fun _ _ => trivial, ?_⟩
          obtain ⟨S, hS, hk⟩ := hg
          have hcl : CL ops C n0 o L w := CL_of (hCPC w hCw) hL
          cases hkd : kd i with
          | det =>
            rw [hkd] at hS
            obtain ⟨v, hv, hSv⟩ := hS
            have := hv w hcl
            have hK := hk v [] ((hSv v []).2 rfl)
            rw [semAt_run this.not]
            generalize (execOp a.eval o).run P w = res at *
            cases res with
            | halt x w' => simp only [detUpon] at this
            | ok nx w' =>
              cases nx <;> simp only [detUpon] at this <;> simp only [Oper.uponIn]
              case value u => obtain ⟨rfl, rfl⟩ := this; exact next _ _ _ hCw hL hK
              case skip => obtain ⟨rfl, rfl⟩ := this; exact next _ _ _ hCw hL hK
              case enter f args =>
                obtain ⟨rfl, _, hc⟩ := this
                exact ⟨FR_dep, calls_FR (hc.mono fun e w'' ⟨he, hkp⟩ => by subst he; exact next _ _ _ (hCP _ _ hCw hkp) (hL.keep hkp) hK)⟩
          | new =>
            rw [hkd] at hS
            obtain ⟨v, w', hr, hkp, hSv⟩ := hS w hcl
            rw [semAt_run (by rw [hr]; trivial), hr]
            exact next _ _ _ (hCP w w' hCw hkp) (hL.add _ (hn w (hCPC w hCw)) hkp) (hk _ _ hSv)
          | mem φ =>
            rw [hkd] at hS
            obtain ⟨hS1, hS2⟩ := hS
            have := hS2 w hcl
            rw [semAt_run this.not]
            generalize (execOp a.eval o).run P w = res at *
            cases res with
            | halt x w' => simp only [memUpon] at this
            | ok nx w' =>
              cases nx <;> simp only [memUpon] at this <;> simp only [Oper.uponIn]
              case value u => exact next _ _ _ (hCP w w' hCw this.1) (hL.add _ (hn w (hCPC w hCw)) this.1) (hk _ _ ((hS1 _ _).2 this.2))
              case enter f args =>
                obtain ⟨rfl, hc⟩ := this
                exact ⟨FR_dep, calls_FR (hc.mono fun e w'' ⟨v, he, hkp, hφ⟩ => by subst he; exact next _ _ _ (hCP _ _ hCw hkp) (hL.add _ (hn _ (hCPC _ hCw)) hkp) (hk _ _ ((hS1 _ _).2 hφ)))⟩
        · rename_i hw
          simp only [hw] at hg
          exact ⟨fun _ _ => trivial, next _ _ _ hCw hL hg⟩
      · have hij : i = j := by omega
        subst hij
        have hw : ∀ e ∈ oj.after, Region.binds md e = true → listed.getD e.on false = true := fun e he hb => by
          obtain ⟨_, o', ho', hall'⟩ := mem_ready.1 hi
          rw [hj] at ho'; cases ho'
          exact hall' e he hb
        obtain ⟨a', g1, g2, g3⟩ := after_run hsel hj hpl (hCPC w hCw) (fuel + 1) listed a L hsz hd hup hw hL hG
        obtain ⟨b1, nx, v, w', b2, b3, b4, b5⟩ := hZ2 a' L w hCw hL g1
        rw [g2] at b2
        rw [g3] at b1
        have key := wpAny_after (ro := ro) (r := r) (Q := Q) (vj := v) (wp := w) (w' := w') (nxj := nx) hj hB1 hsel hpl b4 b3 (fun a1 L1 hL1 hL1' hz hrun hwant => ?_) (fuel + 1) listed a L hsz hd hup hw hfew hL b5 b2 b1 hG
        · unfold wpOpIn
          simp only [hj, b1, if_true]
          refine ⟨fun _ _ => trivial, ?_⟩
          rw [Oper.semAt_eq _ _ _ hnd, b2]
          have ef : fuel + (r + 1) = fuel + 1 + r := by omega
          rw [ef]
          rcases b3 with rfl | ⟨rfl, rfl⟩
          · exact key
          · exact key
        · have h1 := hZ a1 L1 w hCw hL1 hz
          unfold wpOpIn at h1
          simp only [hj, hwant, if_true] at h1
          have h1 := h1.2
          rw [Oper.semAt_eq _ _ _ hnd, hrun] at h1
          rcases b3 with rfl | ⟨rfl, rfl⟩
          · exact h1
          · exact h1
end
section
variable {c : Cx} {env : Env} {F : Know} {own : Own} {Q : Exit → Act → World → Prop}
def barjB (ops : Array Oper) (kd : Nat → Kind) (f k j : Nat) (l : List Nat) : Bool :=
  decide (k ≤ j) && decide (j < ops.size) && (l.length == j - k) && Region.noSelect ops && dnB .any ops k && barB .any ops f (j + 1) && lexG .any ops j l (lk ops.size k) &&
    match ops[j]? with
    | some oj => (match oj.op with | .defer _ => false | _ => true) && oj.after.all (fun e => !Region.binds .any e || decide (e.on < j)) && barPlain .any ops f j oj kd
    | none => false
def Bar (c : Cx) (ops : Array Oper) (j : Nat) (env : Env) (F : Know) (V : List Nat) (own own' : Own) : Prop :=
  ∀ a w oj, ops[j]? = some oj → Hd c env F own a w → Region.wanted oj (yielded ops a.tmps) = true ∧ ∃ nx v w', (execOp a.eval oj).run c.P w = .ok nx w' ∧ ((nx = .value v) ∨ (nx = .skip ∧ v = undef)) ∧ Sat c F own' w' ∧ Keep V w w'
theorem r_bar {ops : Array Oper} {k : Nat} (f j : Nat) (ns : List Nat) (l : List Nat) (own' : Own) (hB : barjB ops (kindOf ns []) f k j l = true) (hs' : own'.Sublist own)
    (h : SG c ops F own' (kindOf ns []) (fun env' N' => R c true ops Q j env' F (ownsI N' ++ own) ∧ Bar c ops j env' F (idsO own) (ownsI N' ++ own) (ownsI N' ++ own')) l env []) : R c true ops Q k env F own := by
  simp only [barjB, Bool.and_eq_true, decide_eq_true_eq, beq_iff_eq] at hB
  obtain ⟨⟨⟨⟨⟨⟨⟨hkj, hjn⟩, hlen⟩, hsel⟩, hdn⟩, hbar⟩, hlex⟩, hrest⟩ := hB
  obtain ⟨oj, hoj⟩ : ∃ oj, ops[j]? = some oj := ⟨ops[j], by rw [Array.getElem?_eq_getElem hjn]⟩
  simp only [hoj, Bool.and_eq_true] at hrest
  obtain ⟨⟨hnd, hdep⟩, hpl⟩ := hrest
  have hnd' : ∀ d, oj.op ≠ .defer d := by
    intro d hd; rw [hd] at hnd; cases hnd
  intro a w hd
  have e1 : ops.size - k = (j - k) + ((ops.size - (j + 1)) + 1) := by omega
  simp only [RestOf]
  rw [e1]
  have hsd := hd.sat.sub hs'
  have hC : ∀ w1 w2, CW c F own' w.heap.size w1 → Keep [] w1 w2 → CW c F own' w.heap.size w2 := fun w1 w2 h1 hk => ⟨h1.1.keep' hk, Nat.le_trans h1.2 hk.size⟩
  have hn : ∀ w1, CW c F own' w.heap.size w1 → w.heap.size ≤ w1.heap.size := fun w1 h1 => h1.2
  have fin : ∀ a1 L1 w1, CW c F own w.heap.size w1 → HoldsL w.heap.size L1 w1 → Zfin c F own' w.heap.size (fun env' N' => R c true ops Q j env' F (ownsI N' ++ own) ∧ Bar c ops j env' F (idsO own) (ownsI N' ++ own) (ownsI N' ++ own')) a1 L1 →
      ∃ env' N' L2, SubP L2 L1 ∧ Real F N' L2 ∧ Hd c env' F (ownsI N' ++ own) a1 w1 ∧ R c true ops Q j env' F (ownsI N' ++ own) ∧ Bar c ops j env' F (idsO own) (ownsI N' ++ own) (ownsI N' ++ own') := by
    intro a1 L1 w1 h1 hL hz
    obtain ⟨env', N', L2, g1, g2, g3, g4, g5⟩ := hz ⟨w1, ⟨h1.1.sub hs', h1.2⟩, hL⟩
    refine ⟨env', N', L2, g1, g2, ⟨g3, join_real h1.1 hd.sat.ownlt hd.sat.knowlt hd.sat.keep.size (hL.sub g1) g2⟩, g4, g5⟩
  refine wpAny_bar (kd := kindOf ns []) (n0 := w.heap.size) (C := CW c F own' w.heap.size) (CP := CW c F own w.heap.size) hoj hbar hsel hdep hpl hC hn (fun w1 w2 h1 hk => ⟨h1.1.keep' hk, Nat.le_trans h1.2 hk.size⟩) (fun w1 h1 => ⟨h1.1.sub hs', h1.2⟩) hnd'
    (Z := Zfin c F own' w.heap.size (fun env' N' => R c true ops Q j env' F (ownsI N' ++ own) ∧ Bar c ops j env' F (idsO own) (ownsI N' ++ own) (ownsI N' ++ own'))) ?_ ?_ (j - k) (lk ops.size k) a [] w (lk_size _ _) (dnB_spec hdn) (fun i hi hin => ?_) (few_lk (by omega)) ⟨hd.sat, Nat.le_refl _⟩ (HoldsL.nil _ _) ?_
  · intro a1 L1 w1 h1 hL hz
    obtain ⟨env', N', L2, _, _, g3, g4, _⟩ := fin a1 L1 w1 h1 hL hz
    have := g4 a1 w1 g3
    simp only [RestOf] at this
    have e2 : ops.size - j = (ops.size - (j + 1)) + 1 := by omega
    rw [e2] at this
    have hr : j ∈ Region.ready .any ops (lk ops.size j) := by
      refine mem_ready.2 ⟨by rw [lk_get true hjn]; simp, oj, hoj, fun e he hb => ?_⟩
      have := Array.all_eq_true_iff_forall_mem.1 hdep e he
      simp only [hb, Bool.not_true, Bool.false_or, decide_eq_true_eq] at this
      rw [lk_get false (by omega)]
      simpa using this
    have := this.2 j hr
    rwa [lk_step] at this
  · intro a1 L1 w1 h1 hL hz
    obtain ⟨env', N', L2, g1, g2, g3, _, g5⟩ := fin a1 L1 w1 h1 hL hz
    obtain ⟨k1, nx, v, w', k2, k3, k4, k5⟩ := g5 a1 w1 oj hoj g3
    refine ⟨k1, nx, v, w', k2, k3, ⟨k4.sub (List.sublist_append_right _ _), Nat.le_trans h1.2 k5.size⟩, hL.nodup, fun x hx => ⟨(hL.at_ x hx).1, ?_⟩⟩
    refine k5.block (hL.at_ x hx).2 fun hm => ?_
    obtain ⟨y, hy, e⟩ := List.mem_map.1 hm
    have := hd.sat.ownlt y hy
    have := (hL.at_ x hx).1
    omega
  · rw [lk_get true hin]; simp; omega
  · rw [← hlen]
    exact wpAnyG_lex hC hn Zfin_inv hsel l _ a [] (by rw [hlen]; exact few_lk (by omega)) hlex (h (lexG_in l _ hlex) w.heap.size a [] (fun x hx => hd.sat.ownlt x (hs'.subset hx)) hd.env .nil)
variable {ty : TypeId} {ps : String} {af : Array Edge} {g : Option (Nat × Bool)} {l : List Oper} {k : Nat} {V : List Nat} {own' : Own}
theorem keep_setBlk {w : World} {p : Nat} {ob : Obj} (hp : p ∈ V) : Keep V w (setBlk w p ob) :=
  ⟨rfl, rfl, rfl, by simp [setBlk], fun b hb hs => by
    have hne : b ≠ p := fun e => hs (e ▸ hp)
    simp only [setBlk]; rw [Array.getElem?_setIfInBounds_ne (Ne.symm hne)]⟩
theorem bar_stN {t : TypeId} {n : Nat} {x y : Operand} {A : Addr} {p j : Nat} {vs cs cs' : List Value} {T : TypeId} {own2 : Own} (ho : nthO l k = some ⟨none, .store t x y, ty, ps, af, g⟩) (ht : TAgg c.P t n) (hx : Env.ev env x = some (.pointer (some A))) (hA : A = ⟨p, j, none⟩) (hy : Env.ev env y = some (.agg vs.toArray))
    (hu : Upd p (.cells cs.toArray T (0, 0)) (.cells cs'.toArray T (0, 0)) own own2) (hs : setV j vs cs some = some cs')
    (hw : wantedB l.toArray env ⟨none, .store t x y, ty, ps, af, g⟩) (hn : vs.length = n) (hv : vs.all oneCell = true) (hp : p ∈ V) (hsub : own'.Sublist own2) : Bar c l.toArray k env F V own own' := by
  intro a w oj hoj hh
  rw [← nthO_eq, ho] at hoj
  cases hoj
  subst hA
  obtain ⟨h1, h2⟩ := setV_some hs
  simp only [Option.some.injEq] at h2
  refine ⟨wanted_of hh.env hw, .skip, undef, setBlk w p (.cells cs'.toArray T (0, 0)), ?_, .inr ⟨rfl, rfl⟩, (hh.sat.upd hu).sub hsub, keep_setBlk hp⟩
  have hr := run_storeAt (P := c.P) (w := w) (t := t) (n := n) (k := j) ht.size (v := .agg vs.toArray) rfl hn (hh.sat.own _ hu.mem) h1 hv
  rw [h2] at hr
  simp only [execOp, hh.env.eval hx, hh.env.eval hy, Sem.run_bind, hr, Result.andThen_ok, Sem.run_pure]
theorem bar_app {s x : Operand} {T e : TypeId} {size bytes : Nat} {pre b : Own} {v : Value} {n : Nat} {xs : List Value} {A : Option Addr} {m cp : Nat} {news : List Value} {t : Tmp}
    (ho : nthO l k = some ⟨some t, .call { callee := .builtin .append, args := #[s, x], argTypes := #[T, T] }, ty, ps, af, g⟩) (hT : AppT c.P T e size bytes) (hv : Env.ev env s = some v) (hx : Env.ev env x = some (.slice A m cp))
    (hw : wantedB l.toArray env ⟨some t, .call { callee := .builtin .append, args := #[s, x], argTypes := #[T, T] }, ty, ps, af, g⟩)
    (hS : SlO e size v n xs b) (hl : news.length = m * size) (hnews : ∀ w, Sat c F (pre ++ b) w → ∀ j u, news[j]? = some u → ∃ a, A = some a ∧ w.cell? (a.add j) = some u) (h1 : ∀ u ∈ news, u.oneCell' = true)
    (hm : (n + m) * bytes ≤ 140737488355328) (hm2 : n + m ≤ maxLen) (hV : ∀ i ∈ idsO b, i ∈ V) (hsub : own'.Sublist pre) : Bar c l.toArray k env F V (pre ++ b) own' := by
  intro a w oj hoj hh
  rw [← nthO_eq, ho] at hoj
  cases hoj
  have hs0 : Sat c F (pre ++ (b ++ [])) w := by simpa using hh.sat
  obtain ⟨v', w', b', hr, h2, h3⟩ := run_append_sl hT hS hl hs0 (hnews w hh.sat) h1 hm hm2 ty
  have hs1 : Sat ⟨c.P, c.n, w, idsO b, c.ro, c.df⟩ noK ([] ++ (b ++ [])) w := by
    refine ⟨Keep.refl _ _, fun _ _ h => (by cases h), fun _ _ h => (by cases h), ?_, fun x hx => .inr ?_, fun x hx => ?_⟩
    · have := hh.sat.nodup
      rw [List.map_append, List.nodup_append] at this
      simpa using this.2.1
    · simp only [List.nil_append, List.append_nil] at hx
      exact List.mem_map_of_mem hx
    · simp only [List.nil_append, List.append_nil] at hx
      exact hh.sat.own x (List.mem_append_right _ hx)
  obtain ⟨v2, w2, b2, hr2, _, h4⟩ := run_append_sl (c := ⟨c.P, c.n, w, idsO b, c.ro, c.df⟩) hT hS hl hs1 (hnews w hh.sat) h1 hm hm2 ty
  rw [hr] at hr2
  injection hr2 with e1 e2
  subst e1; subst e2
  refine ⟨wanted_of hh.env hw, .value v', v', w', ?_, .inl rfl, h3.sub (hsub.trans (List.sublist_append_left _ _)), h4.keep.mono hV⟩
  unfold execOp
  simp only [resolve, invoke, builtin, Sem.run_bind, Sem.run_pure, Result.andThen_ok, List.map_toArray, List.map_cons, List.map_nil, hh.env.eval hv, hh.env.eval hx]
  rw [hr]
  rfl
end
end Go.Eng

/-
  The engine, part 15: ways that meet again behind a region.
-/
namespace Go.Eng
open Go
section
variable {c : Cx} {env : Env} {F : Know} {own : Own} {Q : Exit → Act → World → Prop}
theorem mb {t : Nat} {e X : Bool} (h : Env.get env t = some (.bool e)) (he : e = X) : Env.get env t = some (.bool X) := by rw [← he]; exact h
theorem mi {t : Nat} {k : IntKind} {e X : Int} (h : Env.get env t = some (.int k e)) (he : e = X) : Env.get env t = some (.int k X) := by rw [← he]; exact h
theorem Sat.less {F' : Know} {w : World} (h : Sat c F own w) (hF : Incl F' F) : Sat c F' own w :=
  ⟨h.keep, fun a v ha => h.know a v (hF a v ha), fun a v ha => h.away a v (hF a v ha), h.nodup, h.ids, h.own⟩
theorem t_whileK {x : Code} {σ : Type} (M : σ → Env) (G : σ → Know) (O : σ → Own) (μ : σ → Nat) (I : σ → Prop) (s0 : σ) {env0 : Env} (h0 : I s0) (hG : Incl (G s0) F) (hm : Env.sub (M s0) env) (h1 : Env.sub env0 env) (ho : (O s0).Sublist own)
    (round : ∀ s, I s → T c (M s ++ env0) (G s) (O s) x (Exit.then (fun a w => ∃ s', I s' ∧ μ s' < μ s ∧ Hd c (M s' ++ env0) (G s') (O s') a w) Q)) : T c env F own (.loop x) Q := by
  refine t_loop (fun s => M s ++ env0) G O μ I s0 h0 (fun a w hd => ?_) round
  have hsub : Env.sub (M s0 ++ env0) env := by
    generalize M s0 = m at hm
    induction m with
    | nil => exact h1
    | cons y r ih => obtain ⟨t, v⟩ := y; exact ⟨hm.1, ih hm.2⟩
  have := hd.drop hsub ho
  exact ⟨this.env, this.sat.less hG⟩
theorem loop_backK {σ : Type} {E : σ → Env} {G : σ → Know} {O : σ → Own} {μ : σ → Nat} {I : σ → Prop} {s : σ} (s' : σ) (h0 : I s') (hm : μ s' < μ s) (hG : Incl (G s') F) (he : Env.sub (E s') env) (ho : (O s').Sublist own) :
    TK c env F own (fun a w => ∃ s', I s' ∧ μ s' < μ s ∧ Hd c (E s') (G s') (O s') a w) := fun _ _ hd => ⟨s', h0, hm, (hd.drop he ho).env, (hd.drop he ho).sat.less hG⟩
theorem incl_refl : Incl F F := fun _ _ h => h
theorem tk_freezeS {K : Act → World → Prop} {pre b post : Own} {e : TypeId} {size n : Nat} {A : Option Addr} {cp : Nat} {xs : List Value} (hS : SlO e size (.slice A n cp) n xs b) (hc : c.S = [])
    (h : ∀ F', Incl F F' → Fresh c F F' → (∀ j u, xs[j]? = some u → ∃ a, A = some a ∧ F' (a.add j) = some u) → TK c env F' (pre ++ post) K) : TK c env F (pre ++ (b ++ post)) K := by
  rcases hS.2 with ⟨hv, rfl, rfl⟩ | ⟨p, cap, rest, hv, rfl, _⟩
  · have : xs = [] := List.eq_nil_of_length_eq_zero (by simpa using hS.1)
    subst this
    exact h F (fun _ _ h => h) (fun _ _ h => .inl h) (fun j u hj => by simp at hj)
  · cases hv
    refine tk_freeze hc fun F' h1 h2 h3 => h F' h1 h2 fun j u hj => ⟨_, rfl, ?_⟩
    rw [add_mk, Nat.zero_add]
    exact h3 j u (by rw [List.getElem?_append_left (List.getElem?_eq_some_iff.1 hj).1]; exact hj)
theorem tk_freezeL {K : Act → World → Prop} {pre b : Own} {e : TypeId} {size n : Nat} {A : Option Addr} {cp : Nat} {xs : List Value} (hS : SlO e size (.slice A n cp) n xs b) (hc : c.S = [])
    (h : ∀ F', Incl F F' → Fresh c F F' → (∀ j u, xs[j]? = some u → ∃ a, A = some a ∧ F' (a.add j) = some u) → TK c env F' pre K) : TK c env F (pre ++ b) K := by
  have := tk_freezeS (c := c) (env := env) (F := F) (K := K) (pre := pre) (b := b) (post := []) hS hc (by simpa using h)
  simpa using this
end
end Go.Eng

/-
  The engine, part 16: a move that is unordered with the barrier ahead of it.
-/
namespace Go.Eng
open Go
section
variable {c : Cx} {env : Env} {F : Know} {own : Own} {Q : Exit → Act → World → Prop}
variable {ty : TypeId} {ps : String} {af : Array Edge} {g : Option (Nat × Bool)} {l : List Oper} {k : Nat}
def aheadB (ops : Array Oper) (k : Nat) : Bool :=
  Region.noSelect ops && Region.free .any ops (lk ops.size k) (k + 1) && (Region.ready .any ops (lk ops.size k)).contains (k + 1) && (Region.ready .any ops ((lk ops.size k).setIfInBounds (k + 1) true) == [k])
theorem tk_rot1 {K : Act → World → Prop} {x : Nat × Obj} {r : Own} (h : TK c env F (r ++ [x]) K) : TK c env F (x :: r) K :=
  tk_perm (List.perm_append_comm (l₁ := [x]) (l₂ := r)) h
theorem heldC {c' : Cx} {F' : Know} {own' : Own} {t : Option Tmp} {p : Nat} {cs : List Value} {T : TypeId} {fr : Nat × Nat} {w : World} (hs : Sat c' F' own' w) (h : (Item.own t p (.cells cs.toArray T fr)).holds F') : ∀ j u, cs[j]? = some u → ∃ a, some (⟨p, 0, none⟩ : Addr) = some a ∧ w.cell? (a.add j) = some u :=
  fun j u hu => ⟨_, rfl, by rw [add_mk, Nat.zero_add]; exact hs.know _ _ (holdsK h j u hu)⟩
end
end Go.Eng

/-
  The engine, part 17: a move that is unordered with what stands ahead of it is taken in its place.
-/
namespace Go.Eng
open Go
section
variable {P : Program} {md : Region.Mode} {ops : Array Oper} {Q : Exit → Act → World → Prop}
def lateB (md : Region.Mode) (ops : Array Oper) (i j : Nat) : Bool :=
  Region.noSelect ops && decide (j < i) && decide (i < ops.size) && match ops[i]? with
  | some oi => oi.guard.isNone && (match oi.op with | .move _ => true | _ => false) &&
      (List.range ops.size).all fun k => match ops[k]? with
        | some o => o.after.all (fun e => !Region.binds md e || decide (e.on < k)) && (k == i || oi.after.any (fun e => Region.binds md e && e.on == k) ||
            (if o.after.any (fun e => Region.binds md e && e.on == i) then o.after.any (fun e => Region.binds md e && e.on == j) else oi.apart ops o))
        | none => true
  | none => false
end
end Go.Eng

/-
  The engine, part 18: calls that hand back blocks to be written; a store into a slice of structs of one's own; an append where there is room.
-/
namespace Go.Eng
open Go
def CallsN (P : Program) (f : FuncId) (args : List Value) (w : World) (R : Value → Own → Prop) : Prop :=
  Calls P f args.toArray w fun e w' => ∃ v bs, e = .returned v ∧ Keep [] w w' ∧ (bs.map (·.1)).Nodup ∧ (∀ x ∈ bs, w.heap.size ≤ x.1 ∧ w'.heap[x.1]? = some x.2) ∧ R v bs
section
variable {c : Cx} {env : Env} {F : Know} {own : Own} {Q : Exit → Act → World → Prop}
variable {d : Option Tmp} {ty : TypeId} {ps : String} {af : Array Edge} {g : Option (Nat × Bool)} {l : List Oper} {k : Nat} {draw : Bool}
theorem setV_splice : ∀ {off : Nat} {vs l : List Value} (k : List Value → Option (List Value)), off + vs.length ≤ l.length → setV off vs l k = k (splice l off vs)
  | 0, [], l, k, _ => by simp [setV, splice]
  | 0, v :: vs, [], k, h => by simp at h
  | 0, v :: vs, u :: l, k, h => by
    have := setV_splice (off := 0) (vs := vs) (l := l) (fun s => k (v :: s)) (by simp at h ⊢; omega)
    simp only [setV, this, splice]
    simp
  | n + 1, vs, [], k, h => by simp at h
  | n + 1, vs, u :: l, k, h => by
    have := setV_splice (off := n) (vs := vs) (l := l) (fun s => k (u :: s)) (by simp at h; omega)
    simp only [setV, this, splice]
    congr 1
    simp
    rw [show n + 1 + vs.length = (n + vs.length) + 1 by omega, List.drop_succ_cons]
theorem splice_rows {α : Type} {enc : α → List Value} {sz : Nat} (he : ∀ x : α, (enc x).length = sz) {xs : List α} {i : Nat} (hi : i < xs.length) (x : α) (rest : List Value) : splice (rowsV enc xs ++ rest) (i * sz) (enc x) = rowsV enc (xs.set i x) ++ rest := by
  have e1 : xs = xs.take i ++ (xs[i] :: xs.drop (i + 1)) := by rw [← List.drop_eq_getElem_cons hi, List.take_append_drop]
  have e2 : xs.set i x = xs.take i ++ (x :: xs.drop (i + 1)) := List.set_eq_take_append_cons_drop.trans (if_pos hi)
  have l1 : (rowsV enc (xs.take i)).length = i * sz := by rw [rowsV_len he, List.length_take]; congr 1; omega
  have r0 : ∀ (y : α) (r : List α), rowsV enc (y :: r) = enc y ++ rowsV enc r := fun y r => rfl
  rw [e2, rowsV_app, r0]
  conv => lhs; rw [e1, rowsV_app, r0]
  unfold splice
  have l2 : (enc xs[i]).length = sz := he _
  have e3 : (rowsV enc (xs.take i) ++ (enc xs[i] ++ rowsV enc (xs.drop (i + 1))) ++ rest).take (i * sz) = rowsV enc (xs.take i) := by
    rw [List.append_assoc, List.take_left' l1]
  have e4 : (rowsV enc (xs.take i) ++ (enc xs[i] ++ rowsV enc (xs.drop (i + 1))) ++ rest).drop (i * sz + (enc x).length) = rowsV enc (xs.drop (i + 1)) ++ rest := by
    rw [he, ← List.drop_drop, List.append_assoc, List.drop_left' l1, List.append_assoc, List.drop_left' l2]
  rw [e3, e4]
  simp only [List.append_assoc]
theorem SlO.store {α : Type} {enc : α → List Value} {sz n cp i : Nat} {e : TypeId} {A : Option Addr} {xs : List α} {b : Own} (hS : SlO e sz (.slice A n cp) n (rowsV enc xs) b) (he : ∀ x : α, (enc x).length = sz) (hn : n = xs.length) (hi : i < xs.length) (x : α) :
    ∃ p cs cs', A = some ⟨p, 0, none⟩ ∧ b = [(p, .cells cs.toArray e (0, 0))] ∧ setV (i * sz) (enc x) cs some = some cs' ∧ SlO e sz (.slice A n cp) n (rowsV enc (xs.set i x)) [(p, .cells cs'.toArray e (0, 0))] := by
  rcases hS.2 with ⟨hv, h0, _⟩ | ⟨p, cap, rest, hv, hb, h2, h3, h4⟩
  · omega
  · cases hv
    have l1 : (rowsV enc xs).length = xs.length * sz := rowsV_len he xs
    have hle : i * sz + (enc x).length ≤ (rowsV enc xs ++ rest).length := by
      rw [he, List.length_append, l1]
      have : (i + 1) * sz ≤ xs.length * sz := Nat.mul_le_mul_right _ hi
      rw [Nat.succ_mul] at this
      omega
    refine ⟨p, _, _, rfl, hb, (setV_splice some hle).trans (by rw [splice_rows he hi]), ⟨by rw [rowsV_len he, List.length_set, hn], .inr ⟨p, cp, rest, rfl, rfl, h2, h3, ?_⟩⟩⟩
    rw [← h4, List.length_append, List.length_append, rowsV_len he, List.length_set, l1]
end
section
variable {c : Cx} {env : Env} {F : Know} {own : Own} {Q : Exit → Act → World → Prop}
variable {ty : TypeId} {ps : String} {af : Array Edge} {g : Option (Nat × Bool)} {l : List Oper} {k : Nat} {draw : Bool}
end
section
variable {c : Cx} {env : Env} {F : Know} {own : Own}
variable {d : Option Tmp} {ty : TypeId} {ps : String} {af : Array Edge} {g : Option (Nat × Bool)}
end
end Go.Eng

/-
  The engine, part 19: an append of one element to a slice of one's own that is read afterwards as well.
-/
namespace Go.Eng
open Go
section
variable {c : Cx} {env : Env} {F : Know} {own : Own} {Q : Exit → Act → World → Prop}
variable {ty : TypeId} {ps : String} {af : Array Edge} {g : Option (Nat × Bool)} {l : List Oper} {k : Nat}
def Lies (b : Own) (A : Option Addr) (xs : List Value) : Prop :=
  ∀ (c : Cx) (F : Know) (own : Own) (w : World), Sat c F own w → (∀ x ∈ b, x ∈ own) → ∀ j u, xs[j]? = some u → ∃ a, A = some a ∧ w.cell? (a.add j) = some u
theorem SlO.cap {e : TypeId} {size n cp : Nat} {A : Option Addr} {xs : List Value} {b : Own} (h : SlO e size (.slice A n cp) n xs b) : n ≤ cp ∧ cp ≤ maxLen := by
  rcases h.2 with ⟨hv, h0, _⟩ | ⟨p, cap, rest, hv, hb, h1, h2, _⟩
  · cases hv; exact ⟨Nat.le_refl _, Nat.zero_le _⟩
  · cases hv; exact ⟨h1, h2⟩
end
end Go.Eng

/-
  The engine, part 20: a map of one's own, from integers to integers.
-/
namespace Go.Eng
open Go
def getM (ms : List (Int × Int)) (x : Int) : Option Int :=
  match ms with
  | [] => none
  | p :: r => if p.1 = x then some p.2 else getM r x
def setM (ms : List (Int × Int)) (x y : Int) : List (Int × Int) :=
  match ms with
  | [] => [(x, y)]
  | p :: r => if p.1 = x then (x, y) :: r else p :: setM r x y
def kvM (e : MapEntry) : Value × Value := (e.key, e.val)
def kvI (x : Int × Int) : Value × Value := (.int .i64 x.1, .int .i64 x.2)
def MpO (p : Nat) (ms : List (Int × Int)) (ob : Obj) : Prop := ∃ es clock, ob = .map es clock ∧ es.toList.map kvM = ms.map kvI
structure IMap (P : Program) (t k e : TypeId) : Prop where
  ud : P.underlying t = some (.map k e)
  key : P.underlying k = some (.int .i64)
  zero : ∀ w, (zeroValue e).run P w = .ok (.int .i64 0) w
section
variable {c : Cx} {env : Env} {F : Know} {own : Own} {Q : Exit → Act → World → Prop}
variable {d : Option Tmp} {ty : TypeId} {ps : String} {af : Array Edge} {g : Option (Nat × Bool)} {l : List Oper} {k : Nat} {draw : Bool}
end
end Go.Eng

/-
  The engine, part 21: a map of one's own from integers to values.
-/
namespace Go.Eng
open Go
def getW (ms : List (Int × Value)) (x : Int) : Option Value :=
  match ms with
  | [] => none
  | p :: r => if p.1 = x then some p.2 else getW r x
def kvW (x : Int × Value) : Value × Value := (.int .i64 x.1, x.2)
def MpW (ms : List (Int × Value)) (ob : Obj) : Prop := ∃ es clock, ob = .map es clock ∧ es.toList.map kvM = ms.map kvW
structure WMap (P : Program) (t k e : TypeId) : Prop where
  ud : P.underlying t = some (.map k e)
  key : P.underlying k = some (.int .i64)
section
variable {c : Cx} {env : Env} {F : Know} {own : Own} {Q : Exit → Act → World → Prop}
variable {d : Option Tmp} {ty : TypeId} {ps : String} {af : Array Edge} {g : Option (Nat × Bool)} {l : List Oper} {k : Nat} {draw : Bool}
end
end Go.Eng

/-
  The engine, part 22: a map of one's own that holds 'true' for some integers.
-/
namespace Go.Eng
open Go
def setE2 (fs : List Int) : List (Int × Value) := fs.map fun f => (f, .bool true)
structure BMap (P : Program) (t k e : TypeId) : Prop where
  w : WMap P t k e
  zero : ∀ w, (zeroValue e).run P w = .ok (.bool false) w
section
variable {c : Cx} {env : Env} {F : Know} {own : Own} {Q : Exit → Act → World → Prop}
variable {d : Option Tmp} {ty : TypeId} {ps : String} {af : Array Edge} {g : Option (Nat × Bool)} {l : List Oper} {k : Nat} {draw : Bool}
end
end Go.Eng

/-
  The engine, part 23: ranges over functions that keep memory of their own between the rounds.
-/
namespace Go.Eng
open Go
structure Rounds2 (P : Program) (l : Nat) (F : Know) (xs : List (List Value)) (J : Nat → List Nat → World → Prop) (Jx : List Nat → World → Prop) : Prop where
  st : ∀ k ids W W', J k ids W → Keep [] W W' → J k ids W'
  stx : ∀ ids W W', Jx ids W → Keep [] W W' → Jx ids W'
  know : ∀ k ids W, J k ids W → ∀ a u, F a = some u → W.cell? a = some u
  lt : ∀ k ids W, J k ids W → ∀ i ∈ ids, i < W.heap.size
  round : ∀ k (hk : k < xs.length) ids W, J k ids W → RoundW P l xs[k] W fun e W' => (e = .returned (.bool true) ∧ ∃ ids', J (k + 1) ids' W' ∧ Keep ids W W') ∨ (e = .returned (.bool false) ∧ ∃ ids', Jx ids' W' ∧ Keep ids W W')
theorem roundPost_mono {P : Program} {l : Nat} {R R' : Ending → World → Prop} (h : ∀ e w, R e w → R' e w) : ∀ {e : Exit} {a : Act} {w : World}, roundPost P l R e a w → roundPost P l R' e a w
  | .normal, _, _, ⟨v, w', h1, h2⟩ => ⟨v, w', h1, h _ _ h2⟩
  | .ret, _, _, ⟨v, w', h1, h2⟩ => ⟨v, w', h1, h _ _ h2⟩
  | .exit _, _, _, ⟨v, w', h1, h2⟩ => ⟨v, w', h1, h _ _ h2⟩
  | .goto _, _, _, ⟨v, w', h1, h2⟩ => ⟨v, w', h1, h _ _ h2⟩
  | .panic _, _, _, h0 => h0
  | .outgrown, _, _, h0 => h0
def Gives2 (P : Program) (f : FuncId) (caps : List Value) (F : Know) (xs : List (List Value)) : Prop :=
  ∀ (l : Nat) (J : Nat → List Nat → World → Prop) (Jx : List Nat → World → Prop) (w : World) (ids : List Nat), Rounds2 P l F xs J Jx → J 0 ids w →
    Calls P f (yieldV l :: caps).toArray w fun e w' => ∃ v, e = .returned v ∧ ∃ ids', (J xs.length ids' w' ∨ Jx ids' w')
theorem Rounds2.incl {P : Program} {l : Nat} {F F' : Know} {xs : List (List Value)} {J : Nat → List Nat → World → Prop} {Jx : List Nat → World → Prop} (h : Rounds2 P l F' xs J Jx) (hF : Incl F F') : Rounds2 P l F xs J Jx :=
  ⟨h.st, h.stx, fun k ids W hj a u ha => h.know k ids W hj a u (hF a u ha), h.lt, h.round⟩
theorem Gives2.incl {P : Program} {f : FuncId} {caps : List Value} {F F' : Know} {xs : List (List Value)} (h : Gives2 P f caps F xs) (hF : Incl F F') : Gives2 P f caps F' xs :=
  fun l J Jx w ids hR => h l J Jx w ids (hR.incl hF)
theorem fn_gives2 {P : Program} {f : FuncId} {fn : Func} {code : Code} {caps : List Value} {n : Nat} {F : Know} {xs : List (List Value)} (hf : P.funcs[f]? = some fn) (hb : fn.body = some code) (hn : fn.ntmps = n) (hlen : Nat.ble (caps.length + 1) n = true)
    (h : ∀ (l : Nat) (J : Nat → List Nat → World → Prop) (Jx : List Nat → World → Prop) (w : World), Rounds2 P l F xs J Jx → (∃ ids, J 0 ids w) → T ⟨P, n, w, [], none, []⟩ (mkEnv 0 (yieldV l :: caps)) F [] code (bodyQ P fn (fun e w' => ∃ v, e = .returned v ∧ ∃ ids', (J xs.length ids' w' ∨ Jx ids' w')))) : Gives2 P f caps F xs :=
  fun l J Jx w ids hR h0 => fn_enter hf hb hn (Nat.le_of_ble_eq_true hlen) (hR.know 0 ids w h0) (fun _ _ _ h => by cases h) (by simp) (fun _ h => by cases h) (fun _ h => by cases h) (h l J Jx w hR ⟨ids, h0⟩)
section
variable {P : Program} {n : Nat} {w0 : World} {env : Env} {F : Know} {own : Own} {Q : Exit → Act → World → Prop}
theorem oY2 {ty : TypeId} {ps : String} {af : Array Edge} {g : Option (Nat × Bool)} {l : List Oper} {k : Nat} {draw : Bool} {t : Tmp} {F0 : Know} {x : Operand} {lp : Nat} {args : List Operand} {ts : Array TypeId} {vs : List Value} {xs : List (List Value)} {J : Nat → List Nat → World → Prop} {Jx : List Nat → World → Prop} {i : Nat} (hR : Rounds2 P lp F0 xs J Jx) (hJ : ∃ ids, J i ids w0) (hi : i < xs.length)
    (hB : draw = true → aloneB l.toArray k = true) (ho : nthO l k = some ⟨some t, .call { callee := .value x, args := args.toArray, argTypes := ts }, ty, ps, af, g⟩) (hx : Env.ev env x = some (yieldV lp)) (hv : args.mapM (Env.ev env) = some vs)
    (hd : Nat.blt t n = true) (hw : wantedB l.toArray env ⟨some t, .call { callee := .value x, args := args.toArray, argTypes := ts }, ty, ps, af, g⟩) (hvs : vs = xs[i])
    (h1 : ∀ w1, (∃ ids, J (i + 1) ids w1) → ∀ F', Incl F0 F' → (∀ p cs T fr, (p, Obj.cells cs T fr) ∈ own → ∀ k u, cs[k]? = some u → F' ⟨p, k, none⟩ = some u) → (∀ a u, F a = some u → w0.heap.size ≤ a.block → F' a = some u) → R ⟨P, n, w1, [], none, []⟩ draw l.toArray Q (k + 1) ((t, .bool true) :: env) F' [])
    (h2 : ∀ w1, (∃ ids, Jx ids w1) → R ⟨P, n, w1, [], none, []⟩ draw l.toArray Q (k + 1) ((t, .bool false) :: env) noK []) : R ⟨P, n, w0, [], none, []⟩ draw l.toArray Q k env F own := by
  obtain ⟨ids, hJ⟩ := hJ
  refine r_one (Array.getElem?_eq_some_iff.1 (by rw [← nthO_eq]; exact ho)).1 hB fun a w hh => ?_
  unfold wpOpIn
  have ho' : l.toArray[k]? = some ⟨some t, .call { callee := .value x, args := args.toArray, argTypes := ts }, ty, ps, af, g⟩ := by rw [← nthO_eq]; exact ho
  simp only [ho', wanted_of hh.env hw, if_true]
  refine ⟨fun _ _ => trivial, ?_⟩
  rw [Oper.semAt_eq _ _ _ (fun _ h => by cases h)]
  subst hvs
  obtain ⟨fn, tmps, assign, body, hy, hr⟩ := hR.round i hi ids w (hR.st i _ _ _ hJ hh.sat.keep)
  have e : (execOp a.eval ⟨some t, .call { callee := .value x, args := args.toArray, argTypes := ts }, ty, ps, af, g⟩).run P w = .ok (.round lp fn tmps assign body) w := by
    have e : args.toArray.map a.eval = xs[i].toArray := by rw [List.map_toArray, evals hh.env hv]
    simp only [execOp, Sem.run_bind, run_resolve_func (hh.env.eval hx), Result.andThen_ok, invoke]
    rw [e]
    simpa using hy
  rw [e]
  simp only [Oper.uponIn]
  refine ⟨FR_dep, hr.mono fun e w' he => ?_⟩
  have hlt := hR.lt _ _ _ hJ
  rcases he with ⟨rfl, ids', hj, hkp⟩ | ⟨rfl, ids', hj, hkp⟩
  · refine h1 w' ⟨ids', hj⟩ (fun a => w'.cell? a) (hR.know _ _ _ hj) (fun p cs T fr hm j u hu => ?_) (fun a u ha hge => ?_) _ _ ⟨hh.env.put' (d := some t) hd _, Keep.refl _ _, fun _ _ h => h, fun _ _ _ h => (by cases h), by simp, fun _ h => (by cases h), fun _ h => (by cases h)⟩
    · have hb := hh.sat.own _ hm
      have hn : p ∉ ids := fun hi' => by
        have h3 := hlt p hi'
        rcases hh.sat.ids _ hm with h4 | h4
        · simp only at h4; omega
        · cases h4
      have := hkp.block hb hn
      simp [World.cell?, this, hu]
    · refine hkp.cell (hh.sat.know a u ha) fun hi' => ?_
      have := hlt _ hi'; omega
  · exact h2 w' ⟨ids', hj⟩ _ _ ⟨hh.env.put' (d := some t) hd _, Keep.refl _ _, fun _ _ h => (by cases h), fun _ _ h => (by cases h), by simp, fun _ h => (by cases h), fun _ h => (by cases h)⟩
theorem loop_backG2 {σ : Type} {E : σ → Env} {μ : σ → Nat} {I : σ → World → Prop} {F' : Know} {s : σ} (hG : Incl F F') (s' : σ) (h0 : I s' w0) (hm : μ s' < μ s) (he : Env.sub (E s') env) :
    TK ⟨P, n, w0, [], none, []⟩ env F' own (fun a w => ∃ s' w2, I s' w2 ∧ μ s' < μ s ∧ Hd ⟨P, n, w2, [], none, []⟩ (E s') F [] a w) := fun _ _ hd => ⟨s', w0, h0, hm, (hd.drop he (List.nil_sublist _)).env, (hd.drop he (List.nil_sublist _)).sat.less hG⟩
theorem Sat.back {c c2 : Cx} {F F2 : Know} {own own2 : Own} {W w : World} (h : Sat c F own W) (h2 : Sat c2 F2 own2 w) (hw : c2.w0 = W) (hS : c2.S = idsO own) : Sat c F2 own2 w := by
  have hin : ∀ i ∈ idsO own, c.w0.heap.size ≤ i ∨ i ∈ c.S := fun i hm => by
    obtain ⟨x, hx, rfl⟩ := List.mem_map.1 hm
    exact h.ids x hx
  have hk := h2.keep
  rw [hw, hS] at hk
  refine ⟨⟨hk.os.trans h.keep.os, hk.tape.trans h.keep.tape, hk.output.trans h.keep.output, Nat.le_trans h.keep.size hk.size, fun b hb hs => ?_⟩, h2.know, h2.away, h2.nodup, fun x hx => ?_, h2.own⟩
  · have hn : b ∉ idsO own := fun hm => by
      rcases hin b hm with h1 | h1
      · omega
      · exact hs h1
    exact (hk.old b (Nat.lt_of_lt_of_le hb h.keep.size) hn).trans (h.keep.old b hb hs)
  · have h3 := h2.ids x hx
    rw [hw, hS] at h3
    rcases h3 with h3 | h3
    · exact .inl (Nat.le_trans h.keep.size h3)
    · exact hin _ h3
theorem t_rangeF2 {S : List Nat} {df : List Deferred} {g : Operand} {ps : List Tmp} {assign body : Code} {gf : FuncId} {caps : List Value} {xs : List (List Value)} {σ : Type} (O : σ → Own) (I : Nat → σ → Prop) (Ix : Code → σ → Prop) (s0 : σ) (X : Nat → List Value) {env0 : Env}
    (hg : Env.ev env g = some (.func (.func gf) #[] caps.toArray)) (hb : HasBody P gf) (hG : Gives2 P gf caps F xs) (hX : ∀ k (hk : k < xs.length), xs[k] = X k) (hps : ∀ k, (X k).length = ps.length) (hpn : ps.all (fun p => Nat.blt p n) = true)
    (h0 : I 0 s0) (he : Env.sub env0 env) (ho : (O s0).Sublist own)
    (round : ∀ (W : World) (S' : List Nat) (l D : Nat) (r : Loop) (k : Nat) (s : σ), r.state = .ready ∧ r.pending = none → k < xs.length → I k s →
      T ⟨P, n, W, S', some l, []⟩ (zipE ps (X k) env0) F (O s ++ [(l, .loop r), deadO D]) assign (Exit.then (Begin P l body (RQ ⟨P, n, W, S', none, []⟩ F O I Ix l D r k)) (fun _ _ _ => False)))
    (done : ∀ (D : Nat) (s : σ), I xs.length s → TK ⟨P, n, w0, S, none, markD D :: df⟩ env0 F (O s ++ [deadO D]) (Q .normal))
    (stop : ∀ (D : Nat) (jump : Code) (s : σ), Ix jump s → T ⟨P, n, w0, S, none, markD D :: df⟩ env0 F (O s ++ [deadO D]) jump Q) :
    T ⟨P, n, w0, S, none, df⟩ env F own (.rangeFunc g ps.toArray assign body) Q := by
  intro a w hd
  have hd0 := hd.drop he ho
  refine wpIn_rangeFunc fun fn _ => ?_
  obtain ⟨rr, hrr⟩ : ∃ rr : Loop, rr = { state := .ready, pending := none, fn, tmps := a.tmps, params := ps.toArray, assign, body, defers := w.heap.size } := ⟨_, rfl⟩
  have hst : rr.state = .ready ∧ rr.pending = none := by rw [hrr]; exact ⟨rfl, rfl⟩
  obtain ⟨w1, hw1⟩ : ∃ w1, (w.alloc (.deferred (some []))).alloc (.loop rr) = w1 := ⟨_, rfl⟩
  have hs1 : Sat ⟨P, n, w0, S, none, []⟩ F (O s0 ++ [(w.heap.size + 1, .loop rr), deadO w.heap.size]) w1 := by
    have g1 := (hd0.sat.addN (.deferred (some []))).addN (.loop rr)
    rw [hw1, World.size_alloc] at g1
    refine (g1.perm ?_).ch rfl rfl
    exact (List.perm_append_comm (l₁ := [(w.heap.size + 1, Obj.loop rr), deadO w.heap.size]) (l₂ := O s0))
  have hcl : Calls P gf (yieldV (w.heap.size + 1) :: caps).toArray w1 fun e w' => ∃ v, e = .returned v ∧ ∃ ids' : List Nat, (SatJ ⟨P, n, w0, S, none, []⟩ F O I (w.heap.size + 1) w.heap.size rr xs.length w' ∨ SatX ⟨P, n, w0, S, none, []⟩ F O Ix (w.heap.size + 1) w.heap.size rr w') := by
    have hcall := hG (w.heap.size + 1)
      (fun k ids W => ∃ s, I k s ∧ Sat ⟨P, n, w0, S, none, []⟩ F (O s ++ [(w.heap.size + 1, .loop rr), deadO w.heap.size]) W ∧ ids = idsO (O s ++ [(w.heap.size + 1, .loop rr), deadO w.heap.size]))
      (fun _ W => SatX ⟨P, n, w0, S, none, []⟩ F O Ix (w.heap.size + 1) w.heap.size rr W) w1 _ ⟨?_, ?_, ?_, ?_, ?_⟩ ⟨s0, h0, hs1, rfl⟩
    · refine hcall.mono fun e w' ⟨v, he, ids', hor⟩ => ⟨v, he, ids', ?_⟩
      rcases hor with ⟨s, h1, h2, _⟩ | h1
      · exact .inl ⟨s, h1, h2⟩
      · exact .inr h1
    · rintro k ids W W' ⟨s, hI, hs, e⟩ hk; exact ⟨s, hI, hs.keep' hk, e⟩
    · rintro ids W W' ⟨j, s, hI, hs⟩ hk; exact ⟨j, s, hI, hs.keep' hk⟩
    · rintro k ids W ⟨s, hI, hs, e⟩ a u ha; exact hs.know a u ha
    · rintro k ids W ⟨s, hI, hs, rfl⟩ i hi
      obtain ⟨x, hx, rfl⟩ := List.mem_map.1 hi
      exact hs.ownlt x hx
    · rintro k hk ids W ⟨s, hI, hs, rfl⟩
      have hm : (w.heap.size + 1, Obj.loop rr) ∈ O s ++ [(w.heap.size + 1, .loop rr), deadO w.heap.size] := List.mem_append_right _ List.mem_cons_self
      have hl := hs.own _ hm
      have hxs : xs[k].length = ps.length := by rw [hX k hk]; exact hps k
      have hpp : rr.params = ps.toArray := by rw [hrr]
      have hy := run_yield (P := P) (args := xs[k].toArray) hl (by rw [hpp, List.size_toArray, List.size_toArray, hxs])
      have ez : (rr.params.zip xs[k].toArray).foldl (fun tmps (x : Tmp × Value) => tmps.setIfInBounds x.1 x.2) rr.tmps = (ps.zip (X k)).foldl (fun t (x : Tmp × Value) => t.setIfInBounds x.1 x.2) a.tmps := by
        have e2 : rr.tmps = a.tmps := by rw [hrr]
        rw [hpp, hX k hk, e2]; simp
      rw [ez] at hy
      refine ⟨_, _, _, _, hy, ?_⟩
      have hs2 : Sat ⟨P, n, W, idsO (O s ++ [(w.heap.size + 1, .loop rr), deadO w.heap.size]), some (w.heap.size + 1), []⟩ F (O s ++ [(w.heap.size + 1, .loop rr), deadO w.heap.size]) W :=
        ⟨Keep.refl _ _, hs.know, hs.away, hs.nodup, fun x hx => .inr (List.mem_map_of_mem hx), hs.own⟩
      have hT := round W _ _ w.heap.size rr k s hst hk hI _ W ⟨zipE_ok (n := n) (df' := []) ps (X k) env0 a hpn hd0.env, hs2⟩
      have ea : rr.assign = assign := by rw [hrr]
      have eb : rr.body = body := by rw [hrr]
      rw [ea, eb]
      refine roundIn_of_wpIn (F := FR none) trivial ?_
      have hback : ∀ e W', ((e = Ending.returned (.bool true) ∧ SatJ ⟨P, n, W, idsO (O s ++ [(w.heap.size + 1, .loop rr), deadO w.heap.size]), none, []⟩ F O I (w.heap.size + 1) w.heap.size rr (k + 1) W') ∨ (e = .returned (.bool false) ∧ SatX ⟨P, n, W, idsO (O s ++ [(w.heap.size + 1, .loop rr), deadO w.heap.size]), none, []⟩ F O Ix (w.heap.size + 1) w.heap.size rr W')) →
          ((e = Ending.returned (.bool true) ∧ ∃ ids' : List Nat, (∃ s', I (k + 1) s' ∧ Sat ⟨P, n, w0, S, none, []⟩ F (O s' ++ [(w.heap.size + 1, .loop rr), deadO w.heap.size]) W' ∧ ids' = idsO (O s' ++ [(w.heap.size + 1, .loop rr), deadO w.heap.size])) ∧ Keep (idsO (O s ++ [(w.heap.size + 1, .loop rr), deadO w.heap.size])) W W') ∨
           (e = .returned (.bool false) ∧ ∃ ids' : List Nat, SatX ⟨P, n, w0, S, none, []⟩ F O Ix (w.heap.size + 1) w.heap.size rr W' ∧ Keep (idsO (O s ++ [(w.heap.size + 1, .loop rr), deadO w.heap.size])) W W')) := by
        rintro e W' (⟨rfl, s', hI', hs'⟩ | ⟨rfl, j, s', hI', hs'⟩)
        · exact .inl ⟨rfl, _, ⟨s', hI', hs.back hs' rfl rfl, rfl⟩, hs'.keep⟩
        · exact .inr ⟨rfl, [], ⟨j, s', hI', hs.back hs' rfl rfl⟩, hs'.keep⟩
      have hmono := wpIn_mono hT (Q' := Exit.then (Begin P (w.heap.size + 1) body (roundPost P (w.heap.size + 1) fun e W' => (e = Ending.returned (.bool true) ∧ ∃ ids' : List Nat, (∃ s', I (k + 1) s' ∧ Sat ⟨P, n, w0, S, none, []⟩ F (O s' ++ [(w.heap.size + 1, .loop rr), deadO w.heap.size]) W' ∧ ids' = idsO (O s' ++ [(w.heap.size + 1, .loop rr), deadO w.heap.size])) ∧ Keep (idsO (O s ++ [(w.heap.size + 1, .loop rr), deadO w.heap.size])) W W') ∨
           (e = .returned (.bool false) ∧ ∃ ids' : List Nat, SatX ⟨P, n, w0, S, none, []⟩ F O Ix (w.heap.size + 1) w.heap.size rr W' ∧ Keep (idsO (O s ++ [(w.heap.size + 1, .loop rr), deadO w.heap.size])) W W'))) (fun _ _ _ => False)) (fun e a2 W2 hq => by
        cases e <;> simp only [Exit.then] at hq ⊢
        case normal =>
          obtain ⟨w2, g1, g2⟩ := hq
          refine ⟨w2, g1, wpIn_mono g2 fun e2 a3 W3 hq2 => ?_⟩
          exact roundPost_mono hback hq2)
      exact hmono
  refine ⟨w.heap.size + 1, [markD w.heap.size], w1, { target := .fn (.func gf) caps.toArray, args := #[yieldV (w.heap.size + 1)] }, w1, gf, (yieldV (w.heap.size + 1) :: caps).toArray, w1, ?_, ?_, fun _ _ => trivial, ?_, FR_dep, calls_FR (hcl.mono ?_)⟩
  · rw [← hw1, hrr]; exact run_enterLoop_outer _ _ _ _ _
  · have := run_resolve_func (P := P) (w := w1) (ρ := a.eval) (x := g) (args := #[.const (yieldV (w.heap.size + 1))]) (ts := #[]) (t := 0) (hd.env.eval hg)
    simpa [Act.eval] using this
  · simp only [invoke, hb.call]
    simp
  · rintro e w2 ⟨v, rfl, _, ⟨s, hI, hs⟩ | ⟨jump, s, hI, hs⟩⟩
    · have hm : (w.heap.size + 1, Obj.loop rr) ∈ O s ++ [(w.heap.size + 1, .loop rr), deadO w.heap.size] := List.mem_append_right _ List.mem_cons_self
      have hu : Upd (w.heap.size + 1) (.loop rr) (.loop { rr with state := .exhausted, pending := none }) (O s ++ [(w.heap.size + 1, .loop rr), deadO w.heap.size]) (O s ++ [(w.heap.size + 1, .loop { rr with state := .exhausted, pending := none }), deadO w.heap.size]) := .app .head
      refine ⟨none, _, by have := run_endLoop (P := P) (hs.own _ hm) (by rw [hst.1]; simp); rw [hst.2] at this; exact this, ?_⟩
      refine done w.heap.size s hI _ _ ⟨⟨hd0.env.size, by simp [hd0.env.defers], hd0.env.get⟩, ?_⟩
      exact ((hs.upd hu).sub ((List.sublist_cons_self _ _).append_left _)).ch rfl rfl
    · have hm : (w.heap.size + 1, Obj.loop { rr with state := .done, pending := some jump }) ∈ O s ++ [(w.heap.size + 1, .loop { rr with state := .done, pending := some jump }), deadO w.heap.size] := List.mem_append_right _ List.mem_cons_self
      have hu : Upd (w.heap.size + 1) (.loop { rr with state := .done, pending := some jump }) (.loop { rr with state := .exhausted, pending := some jump }) (O s ++ [(w.heap.size + 1, .loop { rr with state := .done, pending := some jump }), deadO w.heap.size]) (O s ++ [(w.heap.size + 1, .loop { rr with state := .exhausted, pending := some jump }), deadO w.heap.size]) := .app .head
      refine ⟨some jump, _, by have := run_endLoop (P := P) (hs.own _ hm) (by simp); exact this, ?_⟩
      refine stop w.heap.size jump s hI _ _ ⟨⟨hd0.env.size, by simp [hd0.env.defers], hd0.env.get⟩, ?_⟩
      exact ((hs.upd hu).sub ((List.sublist_cons_self _ _).append_left _)).ch rfl rfl
end
end Go.Eng
namespace Go.Eng
open Go
section
variable {c : Cx} {env : Env} {F : Know} {own : Own}
theorem kn_all {F' : Know} {p : Nat} {cs : Array Value} {vs : List Value} (h : ∀ k u, cs[k]? = some u → F' ⟨p, k, none⟩ = some u) (o n : Nat) (hv : ∀ j, j < n → cs[o + j]? = vs[j]?) (hn : ∀ j, j < n → (vs[j]?).isSome = true) : ∀ j, j < n → F' ((⟨p, o, none⟩ : Addr).add j) = vs[j]? := by
  intro j hj
  obtain ⟨u, hu⟩ := Option.isSome_iff_exists.1 (hn j hj)
  rw [hu, add_mk]
  exact h _ u (by rw [hv j hj, hu])
end
end Go.Eng

/-
  The engine, part 24: a store that may come ahead of operations; those that it waits for may look at the block's other cells.
-/
namespace Go.Eng
open Go
def wBlk (F : Know) (p : Nat) (cs : Array Value) (j n : Nat) : Know := fun a =>
  if a.block = p then (if a.spot = none ∧ (a.off < j ∨ j + n ≤ a.off) then cs[a.off]? else none) else F a
section
variable {c : Cx} {env : Env} {F : Know} {own : Own} {Q : Exit → Act → World → Prop}
theorem wBlk_get {p : Nat} {cs : Array Value} {j n k : Nat} {u : Value} {A : Addr} (hA : A = ⟨p, k, none⟩) (hk : k < j ∨ j + n ≤ k) (hu : cs[k]? = some u) : wBlk F p cs j n A = some u := by
  subst hA
  unfold wBlk
  rw [if_pos rfl, if_pos ⟨rfl, hk⟩, hu]
theorem wBlk_old {p : Nat} {cs : Array Value} {j n : Nat} (hp : ∀ a v, F a = some v → a.block ≠ p) : Incl F (wBlk F p cs j n) := fun a u ha => by
  unfold wBlk
  rw [if_neg (hp a u ha), ha]
theorem Sat.wblk {own' : Own} {p : Nat} {cs cs' : Array Value} {T : TypeId} {fr : Nat × Nat} {j n : Nat} {w : World} (h : Sat c F own w) (hpm : own.Perm ((p, .cells cs' T fr) :: own')) (hcs : ∀ k, (k < j ∨ j + n ≤ k) → cs'[k]? = cs[k]?) : Sat c (wBlk F p cs j n) own' w := by
  have h' := h.perm hpm
  have hnd := h'.nodup
  rw [List.map_cons, List.nodup_cons] at hnd
  refine ⟨h'.keep, fun a v ha => ?_, fun a v ha hm => ?_, hnd.2, fun x hx => h'.ids x (List.mem_cons_of_mem _ hx), fun x hx => h'.own x (List.mem_cons_of_mem _ hx)⟩
  · unfold wBlk at ha
    split at ha
    · rename_i hb
      split at ha
      · rename_i hs
        have ho := h'.own _ List.mem_cons_self
        simp only at ho
        rw [← hcs _ hs.2] at ha
        rw [cell_objCell (by rw [hb]; exact ho)]
        simp [objCell, hs.1, ha]
      · cases ha
    · exact h'.know a v ha
  · unfold wBlk at ha
    split at ha
    · rename_i hb
      rw [hb] at hm
      exact hnd.1 hm
    · exact h'.away a v ha (by rw [List.map_cons]; exact List.mem_cons_of_mem _ hm)
theorem Sat.wblk2 {own' : Own} {p : Nat} {cs : Array Value} {T : TypeId} {fr : Nat × Nat} {j n : Nat} {w : World} (h : Sat c F own w) (hpm : own.Perm ((p, .cells cs T fr) :: own')) : Sat c (wBlk F p cs j n) own' w ∧ Incl F (wBlk F p cs j n) :=
  ⟨h.wblk hpm fun _ _ => rfl, wBlk_old fun a v ha e => h.away a v ha (by rw [e]; exact List.mem_map_of_mem (f := (·.1)) (hpm.mem_iff.2 List.mem_cons_self))⟩
def Bar2 (c : Cx) (ops : Array Oper) (j : Nat) (env : Env) (F : Know) (V : List Nat) (own : Own) (F2 : Know) (own' : Own) : Prop :=
  ∀ a w oj, ops[j]? = some oj → Hd c env F own a w → Region.wanted oj (yielded ops a.tmps) = true ∧ ∃ nx v w', (execOp a.eval oj).run c.P w = .ok nx w' ∧ ((nx = .value v) ∨ (nx = .skip ∧ v = undef)) ∧ Sat c F2 own' w' ∧ Keep V w w'
variable {ty : TypeId} {ps : String} {af : Array Edge} {g : Option (Nat × Bool)} {l : List Oper} {k : Nat} {V : List Nat} {own' : Own}
end
end Go.Eng
