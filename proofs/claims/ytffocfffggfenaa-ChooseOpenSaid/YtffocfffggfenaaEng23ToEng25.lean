/-
  The texts Eng23 to Eng25, one after the other.
-/
import Derived.Test.YtffocfffggfenaaEng14ToEng22
/-
  The engine, part 23: ranges over functions that keep memory of their own between the rounds.
-/
namespace Go.Eng
open Go

/-- What holds between the rounds of a loop, whose blocks are ids; and what a round does: it turns no other block. -/
structure Rounds2 (P : Program) (l : Nat) (F : Know) (xs : List (List Value)) (J : Nat → List Nat → World → Prop) (Jx : List Nat → World → Prop) : Prop where
  st : ∀ k ids W W', J k ids W → Keep [] W W' → J k ids W'
  stx : ∀ ids W W', Jx ids W → Keep [] W W' → Jx ids W'
  know : ∀ k ids W, J k ids W → ∀ a u, F a = some u → W.cell? a = some u
  lt : ∀ k ids W, J k ids W → ∀ i ∈ ids, i < W.heap.size
  round : ∀ k (hk : k < xs.length) ids W, J k ids W → RoundW P l xs[k] W fun e W' => (e = .returned (.bool true) ∧ ∃ ids', J (k + 1) ids' W' ∧ Keep ids W W') ∨ (e = .returned (.bool false) ∧ ∃ ids', Jx ids' W' ∧ Keep ids W W')

theorem roundPost_mono {P : Program} {l : Nat} {R R' : Ending → World → Prop} (h : ∀ e w, R e w → R' e w) : ∀ {e : Exit} {a : Act} {w : World}, roundPost P l R e a w → roundPost P l R' e a w
  | .normal, _, _, ⟨v, w', h1, h2⟩ => ⟨v, w', h1, h _ _ h2⟩
  | .ret, _, _, ⟨v, w', h1, h2⟩ => ⟨v, w', h1, h _ _ h2⟩
  | .exit _, _, _, ⟨v, w', h1, h2⟩ => ⟨v, w', h1, h _ _ h2⟩
  | .goto _, _, _, ⟨v, w', h1, h2⟩ => ⟨v, w', h1, h _ _ h2⟩
  | .panic _, _, _, h0 => h0
  | .outgrown, _, _, h0 => h0

/-- A function that yields these, one after the other, and stops when it is told to. -/
def Gives2 (P : Program) (f : FuncId) (caps : List Value) (F : Know) (xs : List (List Value)) : Prop :=
  ∀ (l : Nat) (J : Nat → List Nat → World → Prop) (Jx : List Nat → World → Prop) (w : World) (ids : List Nat), Rounds2 P l F xs J Jx → J 0 ids w →
    Calls P f (yieldV l :: caps).toArray w fun e w' => ∃ v, e = .returned v ∧ ∃ ids', (J xs.length ids' w' ∨ Jx ids' w')

theorem Rounds2.incl {P : Program} {l : Nat} {F F' : Know} {xs : List (List Value)} {J : Nat → List Nat → World → Prop} {Jx : List Nat → World → Prop} (h : Rounds2 P l F' xs J Jx) (hF : Incl F F') : Rounds2 P l F xs J Jx :=
  ⟨h.st, h.stx, fun k ids W hj a u ha => h.know k ids W hj a u (hF a u ha), h.lt, h.round⟩
theorem Gives2.incl {P : Program} {f : FuncId} {caps : List Value} {F F' : Know} {xs : List (List Value)} (h : Gives2 P f caps F xs) (hF : Incl F F') : Gives2 P f caps F' xs :=
  fun l J Jx w ids hR => h l J Jx w ids (hR.incl hF)

theorem fn_gives2 {P : Program} {f : FuncId} {fn : Func} {code : Code} {caps : List Value} {n : Nat} {F : Know} {xs : List (List Value)} (hf : P.funcs[f]? = some fn) (hb : fn.body = some code) (hn : fn.ntmps = n) (hlen : Nat.ble (caps.length + 1) n = true)
    (h : ∀ (l : Nat) (J : Nat → List Nat → World → Prop) (Jx : List Nat → World → Prop) (w : World), Rounds2 P l F xs J Jx → (∃ ids, J 0 ids w) → T ⟨P, n, w, [], none, []⟩ (mkEnv 0 (yieldV l :: caps)) F [] code (bodyQ P fn (fun e w' => ∃ v, e = .returned v ∧ ∃ ids', (J xs.length ids' w' ∨ Jx ids' w')))) : Gives2 P f caps F xs :=
  fun l J Jx w ids hR h0 => fn_enter hf hb hn (Nat.le_of_ble_eq_true hlen) (hR.know 0 ids w h0) (fun _ _ _ h => by cases h) (by simp) (fun _ h => by cases h) (fun _ h => by cases h) (h l J Jx w hR ⟨ids, h0⟩)

section
variable {P : Program} {n : Nat} {w0 : World} {env : Env} {F : Know} {own : Own} {Q : Exit → Act → World → Prop}

/-- A call of yield: one's own blocks are as they were. -/
theorem oY2 {ty : TypeId} {ps : String} {af : Array Edge} {g : Option (Nat × Bool)} {l : List Oper} {k : Nat} {draw : Bool} {t : Tmp} {F0 : Know} {x : Operand} {lp : Nat} {args : List Operand} {ts : Array TypeId} {vs : List Value} {xs : List (List Value)} {J : Nat → List Nat → World → Prop} {Jx : List Nat → World → Prop} {i : Nat} (hR : Rounds2 P lp F0 xs J Jx) (hJ : ∃ ids, J i ids w0) (hi : i < xs.length)
    (hB : draw = true → aloneB l.toArray k = true) (ho : nthO l k = some ⟨some t, .call { callee := .value x, args := args.toArray, argTypes := ts }, ty, ps, af, g⟩) (hx : Env.ev env x = some (yieldV lp)) (hv : args.mapM (Env.ev env) = some vs)
    (hd : Nat.blt t n = true) (hw : wantedB l.toArray env ⟨some t, .call { callee := .value x, args := args.toArray, argTypes := ts }, ty, ps, af, g⟩) (hvs : vs = xs[i])
    (h1 : ∀ w1, (∃ ids, J (i + 1) ids w1) → ∀ F', Incl F0 F' → (∀ p cs T fr, (p, Obj.cells cs T fr) ∈ own → ∀ k u, cs[k]? = some u → F' ⟨p, k, none⟩ = some u) → (∀ a u, F a = some u → w0.heap.size ≤ a.block → F' a = some u) → R ⟨P, n, w1, [], none, []⟩ draw l.toArray Q (k + 1) ((t, .bool true) :: env) F' [])
    (h2 : ∀ w1, (∃ ids, Jx ids w1) → R ⟨P, n, w1, [], none, []⟩ draw l.toArray Q (k + 1) ((t, .bool false) :: env) noK []) : R ⟨P, n, w0, [], none, []⟩ draw l.toArray Q k env F own := by
  obtain ⟨ids, hJ⟩ := hJ
  refine r_one (Array.getElem?_eq_some_iff.1 (by rw [← nthO_eq]; exact ho)).1 hB fun a w hh => ?_
  unfold wpOpIn
  have ho' : l.toArray[k]? = some ⟨some t, .call { callee := .value x, args := args.toArray, argTypes := ts }, ty, ps, af, g⟩ := by rw [← nthO_eq]; exact ho
  simp only [ho', wanted_of hh.env hw, if_true]
  refine ⟨fun _ _ => trivial, ?_⟩
  rw [Oper.semAt_eq _ _ _ (fun _ h => by cases h)]
  subst hvs
  obtain ⟨fn, tmps, assign, body, hy, hr⟩ := hR.round i hi ids w (hR.st i _ _ _ hJ hh.sat.keep)
  have e : (execOp a.eval ⟨some t, .call { callee := .value x, args := args.toArray, argTypes := ts }, ty, ps, af, g⟩).run P w = .ok (.round lp fn tmps assign body) w := by
    have e : args.toArray.map a.eval = xs[i].toArray := by rw [List.map_toArray, evals hh.env hv]
    simp only [execOp, Sem.run_bind, run_resolve_func (hh.env.eval hx), Result.andThen_ok, invoke]
    rw [e]
    simpa using hy
  rw [e]
  simp only [Oper.uponIn]
  refine ⟨FR_dep, hr.mono fun e w' he => ?_⟩
  have hlt := hR.lt _ _ _ hJ
  rcases he with ⟨rfl, ids', hj, hkp⟩ | ⟨rfl, ids', hj, hkp⟩
  · refine h1 w' ⟨ids', hj⟩ (fun a => w'.cell? a) (hR.know _ _ _ hj) (fun p cs T fr hm j u hu => ?_) (fun a u ha hge => ?_) _ _ ⟨hh.env.put' (d := some t) hd _, Keep.refl _ _, fun _ _ h => h, fun _ _ _ h => (by cases h), by simp, fun _ h => (by cases h), fun _ h => (by cases h)⟩
    · have hb := hh.sat.own _ hm
      have hn : p ∉ ids := fun hi' => by
        have h3 := hlt p hi'
        rcases hh.sat.ids _ hm with h4 | h4
        · simp only at h4; omega
        · cases h4
      have := hkp.block hb hn
      simp [World.cell?, this, hu]
    · refine hkp.cell (hh.sat.know a u ha) fun hi' => ?_
      have := hlt _ hi'; omega
  · exact h2 w' ⟨ids', hj⟩ _ _ ⟨hh.env.put' (d := some t) hd _, Keep.refl _ _, fun _ _ h => (by cases h), fun _ _ h => (by cases h), by simp, fun _ h => (by cases h), fun _ h => (by cases h)⟩

theorem loop_backG2 {σ : Type} {E : σ → Env} {μ : σ → Nat} {I : σ → World → Prop} {F' : Know} {s : σ} (hG : Incl F F') (s' : σ) (h0 : I s' w0) (hm : μ s' < μ s) (he : Env.sub (E s') env) :
    TK ⟨P, n, w0, [], none, []⟩ env F' own (fun a w => ∃ s' w2, I s' w2 ∧ μ s' < μ s ∧ Hd ⟨P, n, w2, [], none, []⟩ (E s') F [] a w) := fun _ _ hd => ⟨s', w0, h0, hm, (hd.drop he (List.nil_sublist _)).env, (hd.drop he (List.nil_sublist _)).sat.less hG⟩

/-- What holds since the beginning, out of what holds since later. -/
theorem Sat.back {c c2 : Cx} {F F2 : Know} {own own2 : Own} {W w : World} (h : Sat c F own W) (h2 : Sat c2 F2 own2 w) (hw : c2.w0 = W) (hS : c2.S = idsO own) : Sat c F2 own2 w := by
  have hin : ∀ i ∈ idsO own, c.w0.heap.size ≤ i ∨ i ∈ c.S := fun i hm => by
    obtain ⟨x, hx, rfl⟩ := List.mem_map.1 hm
    exact h.ids x hx
  have hk := h2.keep
  rw [hw, hS] at hk
  refine ⟨⟨hk.os.trans h.keep.os, hk.tape.trans h.keep.tape, hk.output.trans h.keep.output, Nat.le_trans h.keep.size hk.size, fun b hb hs => ?_⟩, h2.know, h2.away, h2.nodup, fun x hx => ?_, h2.own⟩
  · have hn : b ∉ idsO own := fun hm => by
      rcases hin b hm with h1 | h1
      · omega
      · exact hs h1
    exact (hk.old b (Nat.lt_of_lt_of_le hb h.keep.size) hn).trans (h.keep.old b hb hs)
  · have h3 := h2.ids x hx
    rw [hw, hS] at h3
    rcases h3 with h3 | h3
    · exact .inl (Nat.le_trans h.keep.size h3)
    · exact hin _ h3

/-- A range over a function. -/
theorem t_rangeF2 {S : List Nat} {df : List Deferred} {g : Operand} {ps : List Tmp} {assign body : Code} {gf : FuncId} {caps : List Value} {xs : List (List Value)} {σ : Type} (O : σ → Own) (I : Nat → σ → Prop) (Ix : Code → σ → Prop) (s0 : σ) (X : Nat → List Value) {env0 : Env}
    (hg : Env.ev env g = some (.func (.func gf) #[] caps.toArray)) (hb : HasBody P gf) (hG : Gives2 P gf caps F xs) (hX : ∀ k (hk : k < xs.length), xs[k] = X k) (hps : ∀ k, (X k).length = ps.length) (hpn : ps.all (fun p => Nat.blt p n) = true)
    (h0 : I 0 s0) (he : Env.sub env0 env) (ho : (O s0).Sublist own)
    (round : ∀ (W : World) (S' : List Nat) (l D : Nat) (r : Loop) (k : Nat) (s : σ), r.state = .ready ∧ r.pending = none → k < xs.length → I k s →
      T ⟨P, n, W, S', some l, []⟩ (zipE ps (X k) env0) F (O s ++ [(l, .loop r), deadO D]) assign (Exit.then (Begin P l body (RQ ⟨P, n, W, S', none, []⟩ F O I Ix l D r k)) (fun _ _ _ => False)))
    (done : ∀ (D : Nat) (s : σ), I xs.length s → TK ⟨P, n, w0, S, none, markD D :: df⟩ env0 F (O s ++ [deadO D]) (Q .normal))
    (stop : ∀ (D : Nat) (jump : Code) (s : σ), Ix jump s → T ⟨P, n, w0, S, none, markD D :: df⟩ env0 F (O s ++ [deadO D]) jump Q) :
    T ⟨P, n, w0, S, none, df⟩ env F own (.rangeFunc g ps.toArray assign body) Q := by
  intro a w hd
  have hd0 := hd.drop he ho
  refine wpIn_rangeFunc fun fn _ => ?_
  obtain ⟨rr, hrr⟩ : ∃ rr : Loop, rr = { state := .ready, pending := none, fn, tmps := a.tmps, params := ps.toArray, assign, body, defers := w.heap.size } := ⟨_, rfl⟩
  have hst : rr.state = .ready ∧ rr.pending = none := by rw [hrr]; exact ⟨rfl, rfl⟩
  obtain ⟨w1, hw1⟩ : ∃ w1, (w.alloc (.deferred (some []))).alloc (.loop rr) = w1 := ⟨_, rfl⟩
  have hs1 : Sat ⟨P, n, w0, S, none, []⟩ F (O s0 ++ [(w.heap.size + 1, .loop rr), deadO w.heap.size]) w1 := by
    have g1 := (hd0.sat.addN (.deferred (some []))).addN (.loop rr)
    rw [hw1, World.size_alloc] at g1
    refine (g1.perm ?_).ch rfl rfl
    exact (List.perm_append_comm (l₁ := [(w.heap.size + 1, Obj.loop rr), deadO w.heap.size]) (l₂ := O s0))
  have hcl : Calls P gf (yieldV (w.heap.size + 1) :: caps).toArray w1 fun e w' => ∃ v, e = .returned v ∧ ∃ ids' : List Nat, (SatJ ⟨P, n, w0, S, none, []⟩ F O I (w.heap.size + 1) w.heap.size rr xs.length w' ∨ SatX ⟨P, n, w0, S, none, []⟩ F O Ix (w.heap.size + 1) w.heap.size rr w') := by
    have hcall := hG (w.heap.size + 1)
      (fun k ids W => ∃ s, I k s ∧ Sat ⟨P, n, w0, S, none, []⟩ F (O s ++ [(w.heap.size + 1, .loop rr), deadO w.heap.size]) W ∧ ids = idsO (O s ++ [(w.heap.size + 1, .loop rr), deadO w.heap.size]))
      (fun _ W => SatX ⟨P, n, w0, S, none, []⟩ F O Ix (w.heap.size + 1) w.heap.size rr W) w1 _ ⟨?_, ?_, ?_, ?_, ?_⟩ ⟨s0, h0, hs1, rfl⟩
    · refine hcall.mono fun e w' ⟨v, he, ids', hor⟩ => ⟨v, he, ids', ?_⟩
      rcases hor with ⟨s, h1, h2, _⟩ | h1
      · exact .inl ⟨s, h1, h2⟩
      · exact .inr h1
    · rintro k ids W W' ⟨s, hI, hs, e⟩ hk; exact ⟨s, hI, hs.keep' hk, e⟩
    · rintro ids W W' ⟨j, s, hI, hs⟩ hk; exact ⟨j, s, hI, hs.keep' hk⟩
    · rintro k ids W ⟨s, hI, hs, e⟩ a u ha; exact hs.know a u ha
    · rintro k ids W ⟨s, hI, hs, rfl⟩ i hi
      obtain ⟨x, hx, rfl⟩ := List.mem_map.1 hi
      exact hs.ownlt x hx
    · rintro k hk ids W ⟨s, hI, hs, rfl⟩
      have hm : (w.heap.size + 1, Obj.loop rr) ∈ O s ++ [(w.heap.size + 1, .loop rr), deadO w.heap.size] := List.mem_append_right _ List.mem_cons_self
      have hl := hs.own _ hm
      have hxs : xs[k].length = ps.length := by rw [hX k hk]; exact hps k
      have hpp : rr.params = ps.toArray := by rw [hrr]
      have hy := run_yield (P := P) (args := xs[k].toArray) hl (by rw [hpp, List.size_toArray, List.size_toArray, hxs])
      have ez : (rr.params.zip xs[k].toArray).foldl (fun tmps (x : Tmp × Value) => tmps.setIfInBounds x.1 x.2) rr.tmps = (ps.zip (X k)).foldl (fun t (x : Tmp × Value) => t.setIfInBounds x.1 x.2) a.tmps := by
        have e2 : rr.tmps = a.tmps := by rw [hrr]
        rw [hpp, hX k hk, e2]; simp
      rw [ez] at hy
      refine ⟨_, _, _, _, hy, ?_⟩
      have hs2 : Sat ⟨P, n, W, idsO (O s ++ [(w.heap.size + 1, .loop rr), deadO w.heap.size]), some (w.heap.size + 1), []⟩ F (O s ++ [(w.heap.size + 1, .loop rr), deadO w.heap.size]) W :=
        ⟨Keep.refl _ _, hs.know, hs.away, hs.nodup, fun x hx => .inr (List.mem_map_of_mem hx), hs.own⟩
      have hT := round W _ _ w.heap.size rr k s hst hk hI _ W ⟨zipE_ok (n := n) (df' := []) ps (X k) env0 a hpn hd0.env, hs2⟩
      have ea : rr.assign = assign := by rw [hrr]
      have eb : rr.body = body := by rw [hrr]
      rw [ea, eb]
      refine roundIn_of_wpIn (F := FR none) trivial ?_
      have hback : ∀ e W', ((e = Ending.returned (.bool true) ∧ SatJ ⟨P, n, W, idsO (O s ++ [(w.heap.size + 1, .loop rr), deadO w.heap.size]), none, []⟩ F O I (w.heap.size + 1) w.heap.size rr (k + 1) W') ∨ (e = .returned (.bool false) ∧ SatX ⟨P, n, W, idsO (O s ++ [(w.heap.size + 1, .loop rr), deadO w.heap.size]), none, []⟩ F O Ix (w.heap.size + 1) w.heap.size rr W')) →
          ((e = Ending.returned (.bool true) ∧ ∃ ids' : List Nat, (∃ s', I (k + 1) s' ∧ Sat ⟨P, n, w0, S, none, []⟩ F (O s' ++ [(w.heap.size + 1, .loop rr), deadO w.heap.size]) W' ∧ ids' = idsO (O s' ++ [(w.heap.size + 1, .loop rr), deadO w.heap.size])) ∧ Keep (idsO (O s ++ [(w.heap.size + 1, .loop rr), deadO w.heap.size])) W W') ∨
           (e = .returned (.bool false) ∧ ∃ ids' : List Nat, SatX ⟨P, n, w0, S, none, []⟩ F O Ix (w.heap.size + 1) w.heap.size rr W' ∧ Keep (idsO (O s ++ [(w.heap.size + 1, .loop rr), deadO w.heap.size])) W W')) := by
        rintro e W' (⟨rfl, s', hI', hs'⟩ | ⟨rfl, j, s', hI', hs'⟩)
        · exact .inl ⟨rfl, _, ⟨s', hI', hs.back hs' rfl rfl, rfl⟩, hs'.keep⟩
        · exact .inr ⟨rfl, [], ⟨j, s', hI', hs.back hs' rfl rfl⟩, hs'.keep⟩
      have hmono := wpIn_mono hT (Q' := Exit.then (Begin P (w.heap.size + 1) body (roundPost P (w.heap.size + 1) fun e W' => (e = Ending.returned (.bool true) ∧ ∃ ids' : List Nat, (∃ s', I (k + 1) s' ∧ Sat ⟨P, n, w0, S, none, []⟩ F (O s' ++ [(w.heap.size + 1, .loop rr), deadO w.heap.size]) W' ∧ ids' = idsO (O s' ++ [(w.heap.size + 1, .loop rr), deadO w.heap.size])) ∧ Keep (idsO (O s ++ [(w.heap.size + 1, .loop rr), deadO w.heap.size])) W W') ∨
           (e = .returned (.bool false) ∧ ∃ ids' : List Nat, SatX ⟨P, n, w0, S, none, []⟩ F O Ix (w.heap.size + 1) w.heap.size rr W' ∧ Keep (idsO (O s ++ [(w.heap.size + 1, .loop rr), deadO w.heap.size])) W W'))) (fun _ _ _ => False)) (fun e a2 W2 hq => by
        cases e <;> simp only [Exit.then] at hq ⊢
        case normal =>
          obtain ⟨w2, g1, g2⟩ := hq
          refine ⟨w2, g1, wpIn_mono g2 fun e2 a3 W3 hq2 => ?_⟩
          exact roundPost_mono hback hq2)
      exact hmono
  refine ⟨w.heap.size + 1, [markD w.heap.size], w1, { target := .fn (.func gf) caps.toArray, args := #[yieldV (w.heap.size + 1)] }, w1, gf, (yieldV (w.heap.size + 1) :: caps).toArray, w1, ?_, ?_, fun _ _ => trivial, ?_, FR_dep, calls_FR (hcl.mono ?_)⟩
  · rw [← hw1, hrr]; exact run_enterLoop_outer _ _ _ _ _
  · have := run_resolve_func (P := P) (w := w1) (ρ := a.eval) (x := g) (args := #[.const (yieldV (w.heap.size + 1))]) (ts := #[]) (t := 0) (hd.env.eval hg)
    simpa [Act.eval] using this
  · simp only [invoke, hb.call]
    simp
  · rintro e w2 ⟨v, rfl, _, ⟨s, hI, hs⟩ | ⟨jump, s, hI, hs⟩⟩
    · have hm : (w.heap.size + 1, Obj.loop rr) ∈ O s ++ [(w.heap.size + 1, .loop rr), deadO w.heap.size] := List.mem_append_right _ List.mem_cons_self
      have hu : Upd (w.heap.size + 1) (.loop rr) (.loop { rr with state := .exhausted, pending := none }) (O s ++ [(w.heap.size + 1, .loop rr), deadO w.heap.size]) (O s ++ [(w.heap.size + 1, .loop { rr with state := .exhausted, pending := none }), deadO w.heap.size]) := .app .head
      refine ⟨none, _, by have := run_endLoop (P := P) (hs.own _ hm) (by rw [hst.1]; simp); rw [hst.2] at this; exact this, ?_⟩
      refine done w.heap.size s hI _ _ ⟨⟨hd0.env.size, by simp [hd0.env.defers], hd0.env.get⟩, ?_⟩
      exact ((hs.upd hu).sub ((List.sublist_cons_self _ _).append_left _)).ch rfl rfl
    · have hm : (w.heap.size + 1, Obj.loop { rr with state := .done, pending := some jump }) ∈ O s ++ [(w.heap.size + 1, .loop { rr with state := .done, pending := some jump }), deadO w.heap.size] := List.mem_append_right _ List.mem_cons_self
      have hu : Upd (w.heap.size + 1) (.loop { rr with state := .done, pending := some jump }) (.loop { rr with state := .exhausted, pending := some jump }) (O s ++ [(w.heap.size + 1, .loop { rr with state := .done, pending := some jump }), deadO w.heap.size]) (O s ++ [(w.heap.size + 1, .loop { rr with state := .exhausted, pending := some jump }), deadO w.heap.size]) := .app .head
      refine ⟨some jump, _, by have := run_endLoop (P := P) (hs.own _ hm) (by simp); exact this, ?_⟩
      refine stop w.heap.size jump s hI _ _ ⟨⟨hd0.env.size, by simp [hd0.env.defers], hd0.env.get⟩, ?_⟩
      exact ((hs.upd hu).sub ((List.sublist_cons_self _ _).append_left _)).ch rfl rfl
end
end Go.Eng
namespace Go.Eng
open Go
section
variable {c : Cx} {env : Env} {F : Know} {own : Own}
/-- Less is known. -/
theorem tk_less {F' : Know} {K : Act → World → Prop} (hG : Incl F F') (h : TK c env F own K) : TK c env F' own K := fun a w hd => h a w ⟨hd.env, hd.sat.less hG⟩
/-- Cells that are known, as a block's. -/
theorem kn_all {F' : Know} {p : Nat} {cs : Array Value} {vs : List Value} (h : ∀ k u, cs[k]? = some u → F' ⟨p, k, none⟩ = some u) (o n : Nat) (hv : ∀ j, j < n → cs[o + j]? = vs[j]?) (hn : ∀ j, j < n → (vs[j]?).isSome = true) : ∀ j, j < n → F' ((⟨p, o, none⟩ : Addr).add j) = vs[j]? := by
  intro j hj
  obtain ⟨u, hu⟩ := Option.isSome_iff_exists.1 (hn j hj)
  rw [hu, add_mk]
  exact h _ u (by rw [hv j hj, hu])
end
end Go.Eng

/-
  The engine, part 24: a store that may come ahead of operations; those that it waits for may look at the block's other cells.
-/
namespace Go.Eng
open Go
/-- What is known of memory, and of a block's cells but those from j on, n of them. -/
def wBlk (F : Know) (p : Nat) (cs : Array Value) (j n : Nat) : Know := fun a =>
  if a.block = p then (if a.spot = none ∧ (a.off < j ∨ j + n ≤ a.off) then cs[a.off]? else none) else F a
section
variable {c : Cx} {env : Env} {F : Know} {own : Own} {Q : Exit → Act → World → Prop}

theorem wBlk_get {p : Nat} {cs : Array Value} {j n k : Nat} {u : Value} {A : Addr} (hA : A = ⟨p, k, none⟩) (hk : k < j ∨ j + n ≤ k) (hu : cs[k]? = some u) : wBlk F p cs j n A = some u := by
  subst hA
  unfold wBlk
  rw [if_pos rfl, if_pos ⟨rfl, hk⟩, hu]
theorem wBlk_old {p : Nat} {cs : Array Value} {j n : Nat} (hp : ∀ a v, F a = some v → a.block ≠ p) : Incl F (wBlk F p cs j n) := fun a u ha => by
  unfold wBlk
  rw [if_neg (hp a u ha), ha]
theorem Sat.wblk {own' : Own} {p : Nat} {cs cs' : Array Value} {T : TypeId} {fr : Nat × Nat} {j n : Nat} {w : World} (h : Sat c F own w) (hpm : own.Perm ((p, .cells cs' T fr) :: own')) (hcs : ∀ k, (k < j ∨ j + n ≤ k) → cs'[k]? = cs[k]?) : Sat c (wBlk F p cs j n) own' w := by
  have h' := h.perm hpm
  have hnd := h'.nodup
  rw [List.map_cons, List.nodup_cons] at hnd
  refine ⟨h'.keep, fun a v ha => ?_, fun a v ha hm => ?_, hnd.2, fun x hx => h'.ids x (List.mem_cons_of_mem _ hx), fun x hx => h'.own x (List.mem_cons_of_mem _ hx)⟩
  · unfold wBlk at ha
    split at ha
    · rename_i hb
      split at ha
      · rename_i hs
        have ho := h'.own _ List.mem_cons_self
        simp only at ho
        rw [← hcs _ hs.2] at ha
        rw [cell_objCell (by rw [hb]; exact ho)]
        simp [objCell, hs.1, ha]
      · cases ha
    · exact h'.know a v ha
  · unfold wBlk at ha
    split at ha
    · rename_i hb
      rw [hb] at hm
      exact hnd.1 hm
    · exact h'.away a v ha (by rw [List.map_cons]; exact List.mem_cons_of_mem _ hm)

theorem Sat.wblk2 {own' : Own} {p : Nat} {cs : Array Value} {T : TypeId} {fr : Nat × Nat} {j n : Nat} {w : World} (h : Sat c F own w) (hpm : own.Perm ((p, .cells cs T fr) :: own')) : Sat c (wBlk F p cs j n) own' w ∧ Incl F (wBlk F p cs j n) :=
  ⟨h.wblk hpm fun _ _ => rfl, wBlk_old fun a v ha e => h.away a v ha (by rw [e]; exact List.mem_map_of_mem (f := (·.1)) (hpm.mem_iff.2 List.mem_cons_self))⟩

theorem join_real2 {F2 : Know} {N : List Item} {L : TNews} {n0 : Nat} {w : World} (hs : Sat c F own w) (h1 : ∀ x ∈ own, x.1 < n0) (h2 : ∀ a v, F a = some v → a.block < n0) (h3 : c.w0.heap.size ≤ n0) (hL : HoldsL n0 L w) (hr : Real F2 N L) : Sat c F (ownsI N ++ own) w := by
  have ho := hr.owns
  refine hs.join h1 h2 h3 ?_ fun x hx => ?_
  · have := hL.nodup
    rw [show L.map (·.2.1) = (L.map (·.2)).map (·.1) by simp] at this
    exact (ho.map _).nodup this
  · obtain ⟨y, hy, rfl⟩ := List.mem_map.1 (ho.subset hx)
    exact hL.at_ y hy

/-- What a barrier leaves, as to what is not its own: F2 is known of it. -/
def Bar2 (c : Cx) (ops : Array Oper) (j : Nat) (env : Env) (F : Know) (V : List Nat) (own : Own) (F2 : Know) (own' : Own) : Prop :=
  ∀ a w oj, ops[j]? = some oj → Hd c env F own a w → Region.wanted oj (yielded ops a.tmps) = true ∧ ∃ nx v w', (execOp a.eval oj).run c.P w = .ok nx w' ∧ ((nx = .value v) ∨ (nx = .skip ∧ v = undef)) ∧ Sat c F2 own' w' ∧ Keep V w w'

/-- The operations from k up to j, where operation j may come up ahead of some of them: own', F2: what these may look at. -/
theorem r_bar2 {ops : Array Oper} {k : Nat} (f j : Nat) (ns : List Nat) (l : List Nat) (own' : Own) (F2 : Know) (hB : barjB ops (kindOf ns []) f k j l = true) (hK0 : ∀ w, Sat c F own w → Sat c F2 own' w ∧ Incl F F2)
    (h : Incl F F2 → SG c ops F2 own' (kindOf ns []) (fun env' N' => R c true ops Q j env' F (ownsI N' ++ own) ∧ Bar2 c ops j env' F (idsO own) (ownsI N' ++ own) F2 (ownsI N' ++ own')) l env []) : R c true ops Q k env F own := by
  have hK := fun w hs => (hK0 w hs).1
  simp only [barjB, Bool.and_eq_true, decide_eq_true_eq, beq_iff_eq] at hB
  obtain ⟨⟨⟨⟨⟨⟨⟨hkj, hjn⟩, hlen⟩, hsel⟩, hdn⟩, hbar⟩, hlex⟩, hrest⟩ := hB
  obtain ⟨oj, hoj⟩ : ∃ oj, ops[j]? = some oj := ⟨ops[j], by rw [Array.getElem?_eq_getElem hjn]⟩
  simp only [hoj, Bool.and_eq_true] at hrest
  obtain ⟨⟨hnd, hdep⟩, hpl⟩ := hrest
  have hnd' : ∀ d, oj.op ≠ .defer d := by
    intro d hd; rw [hd] at hnd; cases hnd
  intro a w hd
  have e1 : ops.size - k = (j - k) + ((ops.size - (j + 1)) + 1) := by omega
  simp only [RestOf]
  rw [e1]
  have hsd := hK w hd.sat
  have hC : ∀ w1 w2, CW c F2 own' w.heap.size w1 → Keep [] w1 w2 → CW c F2 own' w.heap.size w2 := fun w1 w2 h1 hk => ⟨h1.1.keep' hk, Nat.le_trans h1.2 hk.size⟩
  have hn : ∀ w1, CW c F2 own' w.heap.size w1 → w.heap.size ≤ w1.heap.size := fun w1 h1 => h1.2
  have fin : ∀ a1 L1 w1, CW c F own w.heap.size w1 → HoldsL w.heap.size L1 w1 → Zfin c F2 own' w.heap.size (fun env' N' => R c true ops Q j env' F (ownsI N' ++ own) ∧ Bar2 c ops j env' F (idsO own) (ownsI N' ++ own) F2 (ownsI N' ++ own')) a1 L1 →
      ∃ env' N' L2, SubP L2 L1 ∧ Real F2 N' L2 ∧ Hd c env' F (ownsI N' ++ own) a1 w1 ∧ R c true ops Q j env' F (ownsI N' ++ own) ∧ Bar2 c ops j env' F (idsO own) (ownsI N' ++ own) F2 (ownsI N' ++ own') := by
    intro a1 L1 w1 h1 hL hz
    obtain ⟨env', N', L2, g1, g2, g3, g4, g5⟩ := hz ⟨w1, ⟨hK _ h1.1, h1.2⟩, hL⟩
    refine ⟨env', N', L2, g1, g2, ⟨g3, join_real2 h1.1 hd.sat.ownlt hd.sat.knowlt hd.sat.keep.size (hL.sub g1) g2⟩, g4, g5⟩
  refine wpAny_bar (kd := kindOf ns []) (n0 := w.heap.size) (C := CW c F2 own' w.heap.size) (CP := CW c F own w.heap.size) hoj hbar hsel hdep hpl hC hn (fun w1 w2 h1 hk => ⟨h1.1.keep' hk, Nat.le_trans h1.2 hk.size⟩) (fun w1 h1 => ⟨hK _ h1.1, h1.2⟩) hnd'
    (Z := Zfin c F2 own' w.heap.size (fun env' N' => R c true ops Q j env' F (ownsI N' ++ own) ∧ Bar2 c ops j env' F (idsO own) (ownsI N' ++ own) F2 (ownsI N' ++ own'))) ?_ ?_ (j - k) (lk ops.size k) a [] w (lk_size _ _) (dnB_spec hdn) (fun i hi hin => ?_) (few_lk (by omega)) ⟨hd.sat, Nat.le_refl _⟩ (HoldsL.nil _ _) ?_
  · intro a1 L1 w1 h1 hL hz
    obtain ⟨env', N', L2, _, _, g3, g4, _⟩ := fin a1 L1 w1 h1 hL hz
    have := g4 a1 w1 g3
    simp only [RestOf] at this
    have e2 : ops.size - j = (ops.size - (j + 1)) + 1 := by omega
    rw [e2] at this
    have hr : j ∈ Region.ready .any ops (lk ops.size j) := by
      refine mem_ready.2 ⟨by rw [lk_get true hjn]; simp, oj, hoj, fun e he hb => ?_⟩
      have := Array.all_eq_true_iff_forall_mem.1 hdep e he
      simp only [hb, Bool.not_true, Bool.false_or, decide_eq_true_eq] at this
      rw [lk_get false (by omega)]
      simpa using this
    have := this.2 j hr
    rwa [lk_step] at this
  · intro a1 L1 w1 h1 hL hz
    obtain ⟨env', N', L2, g1, g2, g3, _, g5⟩ := fin a1 L1 w1 h1 hL hz
    obtain ⟨k1, nx, v, w', k2, k3, k4, k5⟩ := g5 a1 w1 oj hoj g3
    refine ⟨k1, nx, v, w', k2, k3, ⟨k4.sub (List.sublist_append_right _ _), Nat.le_trans h1.2 k5.size⟩, hL.nodup, fun x hx => ⟨(hL.at_ x hx).1, ?_⟩⟩
    refine k5.block (hL.at_ x hx).2 fun hm => ?_
    obtain ⟨y, hy, e⟩ := List.mem_map.1 hm
    have := hd.sat.ownlt y hy
    have := (hL.at_ x hx).1
    omega
  · rw [lk_get true hin]; simp; omega
  · rw [← hlen]
    exact wpAnyG_lex hC hn Zfin_inv hsel l _ a [] (by rw [hlen]; exact few_lk (by omega)) hlex (h (hK0 w hd.sat).2 (lexG_in l _ hlex) w.heap.size a [] (fun x hx => hsd.ownlt x hx) hd.env .nil)

variable {ty : TypeId} {ps : String} {af : Array Edge} {g : Option (Nat × Bool)} {l : List Oper} {k : Nat} {V : List Nat} {own' : Own}

theorem splice_out {α : Type} {cs vs : List α} {j : Nat} (h : j + vs.length ≤ cs.length) {k : Nat} (hk : k < j ∨ j + vs.length ≤ k) : (cs.take j ++ vs ++ cs.drop (j + vs.length))[k]? = cs[k]? := by
  have hl : (cs.take j).length = j := by rw [List.length_take]; omega
  rcases hk with hk | hk
  · rw [List.append_assoc, List.getElem?_append_left (by omega), List.getElem?_take, if_pos hk]
  · rw [List.getElem?_append_right (by rw [List.length_append, hl]; exact hk), List.length_append, hl, List.getElem?_drop]
    congr 1; omega

theorem bar2_stN {t : TypeId} {n : Nat} {x y : Operand} {A : Addr} {p j : Nat} {vs cs cs' : List Value} {T : TypeId} {v : Value} (ho : nthO l k = some ⟨none, .store t x y, ty, ps, af, g⟩) (ht : ∀ w : World, (sizeOf t).run c.P w = .ok n w) (hx : Env.ev env x = some (.pointer (some A))) (hA : A = ⟨p, j, none⟩) (hy : Env.ev env y = some v) (hvc : v.cells = vs.toArray)
    (hpm : own.Perm ((p, .cells cs.toArray T (0, 0)) :: own')) (hs : setV j vs cs some = some cs')
    (hw : wantedB l.toArray env ⟨none, .store t x y, ty, ps, af, g⟩) (hn : vs.length = n) (hv : vs.all oneCell = true) (hp : p ∈ V) : Bar2 c l.toArray k env F V own (wBlk F p cs.toArray j n) own' := by
  intro a w oj hoj hh
  rw [← nthO_eq, ho] at hoj
  cases hoj
  subst hA
  obtain ⟨h1, h2⟩ := setV_some hs
  simp only [Option.some.injEq] at h2
  have hsp := hh.sat.perm hpm
  have hsu : Sat c F ((p, .cells cs'.toArray T (0, 0)) :: own') (setBlk w p (.cells cs'.toArray T (0, 0))) := hsp.upd .head
  refine ⟨wanted_of hh.env hw, .skip, undef, setBlk w p (.cells cs'.toArray T (0, 0)), ?_, .inr ⟨rfl, rfl⟩, hsu.wblk (.refl _) (fun q hq => ?_), keep_setBlk hp⟩
  · have hr := run_storeAt (P := c.P) (w := w) (t := t) (n := n) (k := j) ht hvc hn (hsp.own _ List.mem_cons_self) h1 hv
    rw [h2] at hr
    simp only [execOp, hh.env.eval hx, hh.env.eval hy, Sem.run_bind, hr, Result.andThen_ok, Sem.run_pure]
  · rw [← h2]
    rw [List.getElem?_toArray, List.getElem?_toArray]
    unfold splice
    rw [← List.append_assoc]
    exact splice_out h1 (by rw [hn]; exact hq)
theorem bar2_st1 {t : TypeId} {x y : Operand} {A : Addr} {p j : Nat} {cs cs' : List Value} {T : TypeId} {v : Value} (ho : nthO l k = some ⟨none, .store t x y, ty, ps, af, g⟩) (ht : TOne c.P t) (hx : Env.ev env x = some (.pointer (some A))) (hA : A = ⟨p, j, none⟩) (hy : Env.ev env y = some v)
    (hpm : own.Perm ((p, .cells cs.toArray T (0, 0)) :: own')) (hs : setV j [v] cs some = some cs')
    (hw : wantedB l.toArray env ⟨none, .store t x y, ty, ps, af, g⟩) (hv : oneCell v = true) (hp : p ∈ V) : Bar2 c l.toArray k env F V own (wBlk F p cs.toArray j 1) own' :=
  bar2_stN ho ht.size hx hA hy (by cases v <;> simp [oneCell] at hv <;> rfl) hpm hs hw rfl (by simp [hv]) hp
end
end Go.Eng

/-
  The engine, part 25: a region whose operations may come up in any order, all at once: each has one value whatever the order, its stores come up one after the other.
-/
namespace Go.Eng
open Go

def isStore (o : Oper) : Bool := match o.op with | .store .. => true | .alloc .. => true | .box .. => true | .buildSlice .. => true | _ => false
def waitsFor (o : Oper) (j : Nat) : Bool := o.after.any fun e => Region.binds .any e && e.on == j
def dstAt (ops : Array Oper) (j : Nat) : Option Tmp := (ops[j]?).bind (·.dst)

def allB (ops : Array Oper) (k : Nat) : Bool :=
  Region.noSelect ops && decide (k ≤ ops.size) && (List.range' k (ops.size - k)).all fun i => match ops[i]? with
    | none => false
    | some o => o.guard.isNone && o.after.all (fun e => !Region.binds .any e || decide (e.on < i)) &&
      (o.looksAt ops).all (fun t => (List.range' k (ops.size - k)).all fun j => dstAt ops j != some t || waitsFor o j) &&
      (match o.dst with | some d => (List.range' k (ops.size - k)).all fun j => j == i || dstAt ops j != some d | none => true) &&
      (!isStore o || (List.range' k (i - k)).all fun j => !(match ops[j]? with | some o' => isStore o' | none => false) || waitsFor o j)

structure AllB (ops : Array Oper) (k : Nat) : Prop where
  sel : ∀ (j : Nat) (o : Oper) cs b, ops[j]? = some o → o.op ≠ .select cs b
  le : k ≤ ops.size
  guard : ∀ i o, k ≤ i → ops[i]? = some o → o.guard = none
  after : ∀ i o, k ≤ i → ops[i]? = some o → ∀ e ∈ o.after, Region.binds .any e = true → e.on < i
  looks : ∀ i o, k ≤ i → ops[i]? = some o → ∀ t ∈ o.looksAt ops, ∀ j, k ≤ j → dstAt ops j = some t → waitsFor o j = true
  dst : ∀ i o d, k ≤ i → ops[i]? = some o → o.dst = some d → ∀ j, k ≤ j → dstAt ops j = some d → j = i
  str : ∀ i o, k ≤ i → ops[i]? = some o → isStore o = true → ∀ j o', k ≤ j → j < i → ops[j]? = some o' → isStore o' = true → waitsFor o j = true

theorem allB_spec {ops : Array Oper} {k : Nat} (h : allB ops k = true) : AllB ops k := by
  unfold allB at h
  simp only [Bool.and_eq_true, decide_eq_true_eq] at h
  obtain ⟨⟨h1, h2⟩, h3⟩ := h
  have key : ∀ i o, k ≤ i → ops[i]? = some o → o.guard.isNone = true ∧ o.after.all (fun e => !Region.binds .any e || decide (e.on < i)) = true ∧
      (o.looksAt ops).all (fun t => (List.range' k (ops.size - k)).all fun j => dstAt ops j != some t || waitsFor o j) = true ∧
      (match o.dst with | some d => (List.range' k (ops.size - k)).all fun j => j == i || dstAt ops j != some d | none => true) = true ∧
      (!isStore o || (List.range' k (i - k)).all fun j => !(match ops[j]? with | some o' => isStore o' | none => false) || waitsFor o j) = true := by
    intro i o hi ho
    have hlt := (Array.getElem?_eq_some_iff.1 ho).1
    have := List.all_eq_true.1 h3 i (by rw [List.mem_range'_1]; omega)
    simp only [ho, Bool.and_eq_true] at this
    obtain ⟨⟨⟨⟨a, b⟩, c⟩, d⟩, e⟩ := this
    exact ⟨a, b, c, d, e⟩
  have hin : ∀ j t, k ≤ j → dstAt ops j = some t → j ∈ List.range' k (ops.size - k) := by
    intro j t hj hd
    rw [List.mem_range'_1]
    have : j < ops.size := by
      rcases Nat.lt_or_ge j ops.size with h | h
      · exact h
      · simp [dstAt, Array.getElem?_eq_none h] at hd
    omega
  refine ⟨Region.noSelect_spec h1, h2, fun i o hi ho => ?_, fun i o hi ho e he hb => ?_, fun i o hi ho t ht j hj hd => ?_, fun i o d hi ho hd j hj hdj => ?_, fun i o hi ho hs j o' hj hji ho' hs' => ?_⟩
  · simpa using (key i o hi ho).1
  · have := Array.all_eq_true_iff_forall_mem.1 (key i o hi ho).2.1 e he
    simpa [hb] using this
  · have := List.all_eq_true.1 (List.all_eq_true.1 (key i o hi ho).2.2.1 t ht) j (hin j t hj hd)
    simpa [hd] using this
  · have := (key i o hi ho).2.2.2.1
    simp only [hd] at this
    have := List.all_eq_true.1 this j (hin j d hj hdj)
    simpa [hdj] using this
  · have := (key i o hi ho).2.2.2.2
    rw [hs] at this
    simp only [Bool.not_true, Bool.false_or] at this
    have := List.all_eq_true.1 this j (by rw [List.mem_range'_1]; omega)
    simpa [ho', hs'] using this

section
variable {c : Cx} {ops : Array Oper} {F F2 : Know} {own' : Own} {k : Nat}

/-- One operation of the plan. cl: how many blocks there are is told (no calls, then). -/
def StepOk (c : Cx) (ops : Array Oper) (F F2 : Know) (own' : Own) (cl : Bool) (envs : Nat → Env) (owns : Nat → Own) (szs : Nat → Nat) (vals : Nat → Value) (i : Nat) : Prop :=
  ∃ o, ops[i]? = some o ∧ ((isStore o = false ∧ o.dst.all (fun d => Nat.blt d c.n) = true ∧ (Det c F2 own' (envs i) o (vals i) ∧ (cl = true → plainOp o.op = true)) ∧ envs (i + 1) = putEnv (envs i) o.dst (vals i) ∧ owns (i + 1) = owns i ∧ szs (i + 1) = szs i) ∨
    (isStore o = true ∧ o.dst.all (fun d => Nat.blt d c.n) = true ∧ (∀ cc, o.op ≠ .defer cc) ∧ envs (i + 1) = putEnv (envs i) o.dst (vals i) ∧ ∀ a w, EnvOk c.n c.df (envs i) a → Sat c F (owns i) w → (cl = true → w.heap.size = szs i) → ∃ nx w', (execOp a.eval o).run c.P w = .ok nx w' ∧ (nx = .value (vals i) ∨ (nx = .skip ∧ vals i = undef)) ∧ Sat c F (owns (i + 1)) w' ∧ (cl = true → w'.heap.size = szs (i + 1))))

/-- What an act holds: of the operations that have come up, their values; else as it was. -/
structure Agree (c : Cx) (ops : Array Oper) (k : Nat) (vals : Nat → Value) (a0 : Act) (listed : Array Bool) (a : Act) : Prop where
  size : a.tmps.size = c.n
  df : a.defers = c.df
  yes : ∀ j t, k ≤ j → dstAt ops j = some t → listed.getD j true = true → a.tmps.getD t undef = vals j
  no : ∀ t, (∀ j, k ≤ j → dstAt ops j = some t → listed.getD j true = false) → a.tmps.getD t undef = a0.tmps.getD t undef

theorem put_getD {a : Act} {d t : Nat} {v : Value} (hd : d < a.tmps.size) : (a.put (some d) v).tmps.getD t undef = if d = t then v else a.tmps.getD t undef := by
  simp only [Act.put]
  by_cases h : d = t
  · subst h; simp [hd]
  · rw [if_neg h]; simp [Array.getElem?_setIfInBounds_ne h]

theorem dst_lt {ops : Array Oper} {j : Nat} {t : Tmp} (h : dstAt ops j = some t) : j < ops.size := by
  rcases Nat.lt_or_ge j ops.size with h' | h'
  · exact h'
  · simp [dstAt, Array.getElem?_eq_none h'] at h

/-- The act after the first operations, in the order in which they stand. -/
def actAt (ops : Array Oper) (k : Nat) (vals : Nat → Value) (a0 : Act) : Nat → Act
  | 0 => a0
  | m + 1 => (actAt ops k vals a0 m).put (dstAt ops (k + m)) (vals (k + m))

theorem actAt_env {cl : Bool} {envs : Nat → Env} {owns : Nat → Own} {szs : Nat → Nat} {vals : Nat → Value} {a0 : Act} (h0 : EnvOk c.n c.df (envs k) a0) (hs : ∀ i, k ≤ i → i < ops.size → StepOk c ops F F2 own' cl envs owns szs vals i) : ∀ m, k + m ≤ ops.size → EnvOk c.n c.df (envs (k + m)) (actAt ops k vals a0 m)
  | 0, _ => h0
  | m + 1, hm => by
    have ih := actAt_env h0 hs m (by omega)
    obtain ⟨o, ho, hor⟩ := hs (k + m) (by omega) (by omega)
    have hd : dstAt ops (k + m) = o.dst := by simp [dstAt, ho]
    rcases hor with ⟨_, h2, _, h4, _⟩ | ⟨_, h2, _, h4, _⟩ <;>
    · show EnvOk c.n c.df (envs (k + (m + 1))) ((actAt ops k vals a0 m).put (dstAt ops (k + m)) (vals (k + m)))
      rw [show k + (m + 1) = k + m + 1 by omega, h4, hd]
      exact ih.put' h2 _

theorem actAt_get (hB : AllB ops k) {cl : Bool} {envs : Nat → Env} {owns : Nat → Own} {szs : Nat → Nat} {vals : Nat → Value} {a0 : Act} (h0 : EnvOk c.n c.df (envs k) a0) (hs : ∀ i, k ≤ i → i < ops.size → StepOk c ops F F2 own' cl envs owns szs vals i) (t : Tmp) : ∀ m, k + m ≤ ops.size →
    (∀ j, k ≤ j → j < k + m → dstAt ops j = some t → (actAt ops k vals a0 m).tmps.getD t undef = vals j) ∧ ((∀ j, k ≤ j → j < k + m → dstAt ops j ≠ some t) → (actAt ops k vals a0 m).tmps.getD t undef = a0.tmps.getD t undef)
  | 0, _ => ⟨fun j h1 h2 => by omega, fun _ => rfl⟩
  | m + 1, hm => by
    obtain ⟨ih1, ih2⟩ := actAt_get hB h0 hs t m (by omega)
    have he := actAt_env h0 hs m (by omega)
    obtain ⟨o, ho, hor⟩ := hs (k + m) (by omega) (by omega)
    have hdd : ∀ d, dstAt ops (k + m) = some d → d < c.n := by
      intro d hd
      have hd' : o.dst = some d := by rw [← hd]; simp [dstAt, ho]
      rcases hor with ⟨_, h2, _⟩ | ⟨_, h2, _⟩ <;>
      · rw [hd'] at h2; simpa [Nat.blt_eq] using h2
    show (∀ j, k ≤ j → j < k + (m + 1) → dstAt ops j = some t → ((actAt ops k vals a0 m).put (dstAt ops (k + m)) (vals (k + m))).tmps.getD t undef = vals j) ∧ ((∀ j, k ≤ j → j < k + (m + 1) → dstAt ops j ≠ some t) → ((actAt ops k vals a0 m).put (dstAt ops (k + m)) (vals (k + m))).tmps.getD t undef = a0.tmps.getD t undef)
    cases hd : dstAt ops (k + m) with
    | none =>
      refine ⟨fun j h1 h2 h3 => ?_, fun h => ih2 fun j h1 h2 => h j h1 (by omega)⟩
      by_cases e : j = k + m
      · subst e; rw [hd] at h3; cases h3
      · exact ih1 j h1 (by omega) h3
    | some d =>
      have hlt := hdd d hd
      rw [put_getD (by rw [he.size]; exact hlt)]
      refine ⟨fun j h1 h2 h3 => ?_, fun h => ?_⟩
      · by_cases e : d = t
        · subst e
          have hod : o.dst = some d := by rw [← hd]; simp [dstAt, ho]
          have := hB.dst (k + m) o d (by omega) ho hod j h1 h3
          rw [if_pos rfl, this]
        · rw [if_neg e]
          have : j ≠ k + m := fun e2 => by rw [e2, hd] at h3; injection h3 with h3; exact e h3
          exact ih1 j h1 (by omega) h3
      · have : d ≠ t := fun e => h (k + m) (by omega) (by omega) (by rw [hd, e])
        rw [if_neg this]
        exact ih2 fun j h1 h2 => h j h1 (by omega)

theorem ready_waits {listed : Array Bool} {i j : Nat} {o : Oper} (hr : i ∈ Region.ready .any ops listed) (ho : ops[i]? = some o) (hw : waitsFor o j = true) : listed.getD j false = true := by
  obtain ⟨_, o', ho', hall⟩ := mem_ready.1 hr
  rw [ho] at ho'; cases ho'
  obtain ⟨e, he, hb⟩ := Array.any_eq_true'.1 hw
  simp only [Bool.and_eq_true, beq_iff_eq] at hb
  rw [← hb.2]; exact hall e he hb.1

theorem getD_tf {listed : Array Bool} {j : Nat} (h : listed.getD j false = true) : listed.getD j true = true := by
  rcases Nat.lt_or_ge j listed.size with h' | h'
  · simp [h'] at h ⊢; exact h
  · simp [Array.getElem?_eq_none h'] at h

/-- Where the stores stand. -/
def StoresAt (ops : Array Oper) (k : Nat) (listed : Array Bool) (q : Nat) : Prop := ∀ j o, k ≤ j → ops[j]? = some o → isStore o = true → (listed.getD j true = true ↔ j < q)

theorem owns_eq {cl : Bool} {envs : Nat → Env} {owns : Nat → Own} {szs : Nat → Nat} {vals : Nat → Value} (hs : ∀ i, k ≤ i → i < ops.size → StepOk c ops F F2 own' cl envs owns szs vals i) {p : Nat} (hp : k ≤ p) : ∀ m, p + m ≤ ops.size → (∀ j o, p ≤ j → j < p + m → ops[j]? = some o → isStore o = false) → owns (p + m) = owns p ∧ szs (p + m) = szs p
  | 0, _, _ => ⟨rfl, rfl⟩
  | m + 1, hm, hn => by
    have ih := owns_eq hs hp m (by omega) fun j o h1 h2 => hn j o h1 (by omega)
    obtain ⟨o, ho, hor⟩ := hs (p + m) (by omega) (by omega)
    have hno := hn (p + m) o (by omega) (by omega) ho
    rcases hor with ⟨_, _, _, _, h5, h6⟩ | ⟨h1, _⟩
    · rw [show p + (m + 1) = p + m + 1 by omega, h5, h6]; exact ih
    · rw [hno] at h1; cases h1

theorem all_run {Q : Exit → Act → World → Prop} (hB : AllB ops k) {cl : Bool} {envs : Nat → Env} {owns : Nat → Own} {szs : Nat → Nat} {vals : Nat → Value} {a0 : Act} (h0 : EnvOk c.n c.df (envs k) a0) (hs : ∀ i, k ≤ i → i < ops.size → StepOk c ops F F2 own' cl envs owns szs vals i)
    (hK : ∀ i, k ≤ i → i ≤ ops.size → ∀ w, Sat c F (owns i) w → Sat c F2 own' w) (hQ : TK c (envs ops.size) F (owns ops.size) (Q .normal)) :
    ∀ (fuel : Nat) (listed : Array Bool) (a : Act) (w : World) (q : Nat), listed.size = ops.size → (∀ j, j < k → listed.getD j true = true) → (∀ l : List Nat, l.Nodup → (∀ j ∈ l, listed.getD j true = false) → l.length ≤ fuel) → (∃ l : List Nat, l.Nodup ∧ (∀ j, j ∈ l ↔ listed.getD j true = false) ∧ l.length = fuel) →
      Agree c ops k vals a0 listed a → k ≤ q → q ≤ ops.size → StoresAt ops k listed q → Sat c F (owns q) w → (cl = true → w.heap.size = szs q) → wpAnyIn (FR c.ro) 0 c.P .any ops Q fuel listed a w := by
  intro fuel
  induction fuel with
  | zero =>
    intro listed a w q hsz hlow hfew _ hag hkq hqn hst hsat _
    have hall : ∀ j, listed.getD j true = true := fun j => by
      cases h : listed.getD j true with
      | true => rfl
      | false => have := hfew [j] (by simp) (by simpa using h); simp at this
    refine ⟨List.eq_nil_iff_forall_not_mem.2 fun i hi => ?_, ?_⟩
    · have := (mem_ready.1 hi).1; rw [hall] at this; cases this
    · have hqq : owns ops.size = owns q := by
        have := And.left <| owns_eq hs hkq (ops.size - q) (by omega) fun j o h1 h2 ho => by
          cases h : isStore o with
          | false => rfl
          | true => have := (hst j o (by omega) ho h).1 (hall j); omega
        rwa [show q + (ops.size - q) = ops.size by omega] at this
      refine hQ a w ⟨⟨hag.size, hag.df, fun t v hv => ?_⟩, by rw [hqq]; exact hsat⟩
      have hm : k + (ops.size - k) = ops.size := by have := hB.le; omega
      have he := actAt_env h0 hs (ops.size - k) (by omega)
      have hg := actAt_get hB h0 hs t (ops.size - k) (by omega)
      rw [hm] at he hg
      have := he.get t v hv
      rw [← this]
      by_cases hex : ∃ j, k ≤ j ∧ dstAt ops j = some t
      · obtain ⟨j, h1, h2⟩ := hex
        rw [hag.yes j t h1 h2 (hall j), hg.1 j h1 (dst_lt h2) h2]
      · rw [hag.no t fun j h1 h2 => absurd ⟨j, h1, h2⟩ hex, hg.2 fun j h1 _ h2 => hex ⟨j, h1, h2⟩]
  | succ fuel ih =>
    intro listed a w q hsz hlow hfew hsome hag hkq hqn hst hsat hsize
    refine ⟨fun hnil => ?_, fun i hi => ?_⟩
    · -- the first that has not come up is ready
      exfalso
      obtain ⟨l, h1, h2, h3⟩ := hsome
      obtain ⟨j, hj⟩ : ∃ j, j ∈ l := by
        cases l with
        | nil => simp at h3
        | cons x r => exact ⟨x, List.mem_cons_self⟩
      have hex : ∃ j, listed.getD j true = false := ⟨j, (h2 j).1 hj⟩
      have hmin : ∃ m, listed.getD m true = false ∧ ∀ j, j < m → listed.getD j true = true := by
        obtain ⟨j, hj⟩ := hex
        induction j using Nat.strongRecOn with
        | _ j ihj =>
          by_cases h : ∀ i, i < j → listed.getD i true = true
          · exact ⟨j, hj, h⟩
          · simp only [Classical.not_forall] at h
            obtain ⟨i, hi, hn⟩ := h
            exact ihj i hi (by simpa using hn)
      obtain ⟨m, hm1, hm2⟩ := hmin
      have hmk : k ≤ m := by
        rcases Nat.lt_or_ge m k with h | h
        · rw [hlow m h] at hm1; cases hm1
        · exact h
      have hmn : m < ops.size := by
        rcases Nat.lt_or_ge m listed.size with h | h
        · omega
        · simp [Array.getElem?_eq_none h] at hm1
      have hr : m ∈ Region.ready .any ops listed := mem_ready.2 ⟨hm1, ops[m], Array.getElem?_eq_getElem hmn, fun e he hb => by
        have h4 := hB.after m ops[m] hmk (Array.getElem?_eq_getElem hmn) e he hb
        have h5 := hm2 e.on h4
        have : e.on < listed.size := by omega
        simp [this] at h5 ⊢; exact h5⟩
      rw [hnil] at hr; cases hr
    · have hr := hi
      obtain ⟨hun, o, ho, _⟩ := mem_ready.1 hi
      have hin : i < ops.size := (Array.getElem?_eq_some_iff.1 ho).1
      have hki : k ≤ i := by
        rcases Nat.lt_or_ge i k with h | h
        · rw [hlow i h] at hun; cases hun
        · exact h
      obtain ⟨o', ho', hor⟩ := hs i hki hin
      rw [ho] at ho'; cases ho'
      have hgn := hB.guard i o hki ho
      -- the operation does what it would do in its place
      have hop : execOp a.eval o = execOp (actAt ops k vals a0 (i - k)).eval o := by
        refine execOp_congr o (hB.sel i o · · ho) fun x hx => ?_
        cases x with
        | tmp t =>
          have hg := actAt_get hB h0 hs t (i - k) (by omega)
          rw [show k + (i - k) = i by omega] at hg
          have hl : t ∈ o.looksAt ops := List.mem_append_left _ (List.mem_filterMap.2 ⟨.tmp t, by simpa using hx, rfl⟩)
          show a.tmps.getD t undef = (actAt ops k vals a0 (i - k)).tmps.getD t undef
          by_cases hex : ∃ j, k ≤ j ∧ dstAt ops j = some t
          · obtain ⟨j, h1, h2⟩ := hex
            have hw := hB.looks i o hki ho t hl j h1 h2
            have hlj := getD_tf (ready_waits hr ho hw)
            have hji : j < i := by
              obtain ⟨e, he, hb⟩ := Array.any_eq_true'.1 hw
              simp only [Bool.and_eq_true, beq_iff_eq] at hb
              have := hB.after i o hki ho e he hb.1
              omega
            rw [hag.yes j t h1 h2 hlj, hg.1 j h1 hji h2]
          · rw [hag.no t fun j h1 h2 => absurd ⟨j, h1, h2⟩ hex, hg.2 fun j h1 _ h2 => hex ⟨j, h1, h2⟩]
        | const v => rfl
        | global g => rfl
        | func f => rfl
      have he := actAt_env h0 hs (i - k) (by omega)
      rw [show k + (i - k) = i by omega] at he
      have hsz' : (listed.setIfInBounds i true).size = ops.size := by simp [hsz]
      have hlow' : ∀ j, j < k → (listed.setIfInBounds i true).getD j true = true := fun j hj => by
        rw [getD_set_ne true (by omega)]; exact hlow j hj
      have hge : ∀ j, (listed.setIfInBounds i true).getD j true = false → j ≠ i ∧ listed.getD j true = false := fun j hj => by
        have hne : j ≠ i := fun e => by subst e; rw [getD_set_self] at hj; cases hj
        exact ⟨hne, by rwa [getD_set_ne true (Ne.symm hne)] at hj⟩
      have hfew' : ∀ l : List Nat, l.Nodup → (∀ j ∈ l, (listed.setIfInBounds i true).getD j true = false) → l.length ≤ fuel := by
        intro l hn ha
        have := hfew (i :: l) (List.nodup_cons.2 ⟨fun hm => (hge i (ha i hm)).1 rfl, hn⟩) fun x hx => by
          rcases List.mem_cons.1 hx with rfl | hx
          · exact hun
          · exact (hge x (ha x hx)).2
        simpa using this
      have hsome' : ∃ l : List Nat, l.Nodup ∧ (∀ j, j ∈ l ↔ (listed.setIfInBounds i true).getD j true = false) ∧ l.length = fuel := by
        obtain ⟨l, h1, h2, h3⟩ := hsome
        refine ⟨l.erase i, h1.erase i, fun j => ?_, by rw [List.length_erase_of_mem ((h2 i).2 hun), h3]; rfl⟩
        rw [h1.mem_erase_iff, h2]
        constructor
        · rintro ⟨a, b⟩; rw [getD_set_ne true (Ne.symm a)]; exact b
        · exact hge j
      have hag' : Agree c ops k vals a0 (listed.setIfInBounds i true) (a.put o.dst (vals i)) := by
        have hdi : dstAt ops i = o.dst := by simp [dstAt, ho]
        cases hd : o.dst with
        | none =>
          refine ⟨hag.size, hag.df, fun j t h1 h2 h3 => hag.yes j t h1 h2 ?_, fun t h => hag.no t fun j h1 h2 => (hge j (h j h1 h2)).2⟩
          have : j ≠ i := fun e => by subst e; rw [hdi, hd] at h2; cases h2
          rwa [getD_set_ne true (Ne.symm this)] at h3
        | some d =>
          have hdn : d < c.n := by
            rcases hor with ⟨_, h2, _⟩ | ⟨_, h2, _⟩ <;>
            · rw [hd] at h2; simpa [Nat.blt_eq] using h2
          refine ⟨by simp [Act.put, hag.size], by simp [Act.put, hag.df], fun j t h1 h2 h3 => ?_, fun t h => ?_⟩
          · rw [put_getD (by rw [hag.size]; exact hdn)]
            by_cases e : d = t
            · subst e
              rw [if_pos rfl, hB.dst i o d hki ho hd j h1 h2]
            · rw [if_neg e]
              have : j ≠ i := fun e2 => by subst e2; rw [hdi, hd] at h2; injection h2 with h2; exact e h2
              rw [getD_set_ne true (Ne.symm this)] at h3
              exact hag.yes j t h1 h2 h3
          · rw [put_getD (by rw [hag.size]; exact hdn)]
            have : d ≠ t := fun e => by
              have := h i hki (by rw [hdi, hd, e])
              rw [getD_set_self] at this; cases this
            rw [if_neg this]
            exact hag.no t fun j h1 h2 => (hge j (h j h1 h2)).2
      unfold wpOpIn
      simp only [ho]
      rw [show Region.wanted o (yielded ops a.tmps) = true by unfold Region.wanted; rw [hgn]]
      simp only [if_true]
      rcases hor with ⟨hns, hdl, ⟨hD, hpl⟩, _, _⟩ | ⟨hsto, hdl, hnc, _, hSt⟩
      · have hd2 := hD _ he w (hK q hkq hqn w hsat)
        rw [← hop] at hd2
        have hsame : ∀ w', (∃ nx, (execOp a.eval o).run c.P w = .ok nx w') → cl = true → w' = w := by
          rintro w' ⟨nx, hrun⟩ hcl
          obtain ⟨v', rfl⟩ := plain_value (hpl hcl) hrun
          rw [hrun] at hd2
          exact hd2.1
        have hst' : StoresAt ops k (listed.setIfInBounds i true) q := fun j oj h1 h2 h3 => by
          have : j ≠ i := fun e => by subst e; rw [ho] at h2; cases h2; rw [hns] at h3; cases h3
          rw [getD_set_ne true (Ne.symm this)]
          exact hst j oj h1 h2 h3
        cases hcl : cl with
        | false =>
          refine upon_det hd2 fun w' hkp => ?_
          exact ih _ _ _ q hsz' hlow' hfew' hsome' hag' hkq hqn hst' (hsat.keep' hkp) (fun h => by rw [hcl] at h; cases h)
        | true =>
          refine ⟨fun _ _ => trivial, ?_⟩
          rw [semAt_run hd2.not]
          generalize hres : (execOp a.eval o).run c.P w = res at *
          cases res with
          | halt x w' => simp only [detUpon] at hd2
          | ok nx w' =>
            obtain ⟨v', rfl⟩ := plain_value (hpl hcl) hres
            obtain ⟨rfl, rfl⟩ := hd2
            simp only [Oper.uponIn]
            exact ih _ _ _ q hsz' hlow' hfew' hsome' hag' hkq hqn hst' hsat hsize
      · -- a store: those ahead of it are done, the others are not
        have hpre : ∀ j oj, k ≤ j → j < i → ops[j]? = some oj → isStore oj = true → listed.getD j true = true := fun j oj h1 h2 h3 h4 => getD_tf (ready_waits hr ho (hB.str i o hki ho hsto j oj h1 h2 h3 h4))
        have hqi : ¬ i < q := fun h => by have := (hst i o hki ho hsto).2 h; rw [hun] at this; cases this
        have howq : owns i = owns q ∧ szs i = szs q := by
          have := owns_eq hs hkq (i - q) (by omega) fun j oj h1 h2 h3 => by
            cases h : isStore oj with
            | false => rfl
            | true => have := (hst j oj (by omega) h3 h).1 (hpre j oj (by omega) (by omega) h3 h); omega
          rwa [show q + (i - q) = i by omega] at this
        obtain ⟨nx, w', hrun, hnx, hs', hsz2⟩ := hSt _ w he (by rw [howq.1]; exact hsat) (fun h => by rw [howq.2]; exact hsize h)
        rw [← hop] at hrun
        refine ⟨fun _ _ => trivial, ?_⟩
        rw [Oper.semAt_eq _ _ _ hnc, hrun]
        have hst' : StoresAt ops k (listed.setIfInBounds i true) (i + 1) := fun j oj h1 h2 h3 => by
          by_cases e : j = i
          · subst e; rw [getD_set_self]; simp
          · rw [getD_set_ne true (Ne.symm e)]
            rcases Nat.lt_or_ge j i with hlt | hge2
            · rw [hpre j oj h1 hlt h2 h3]; simp; omega
            · have hji : i < j := by omega
              have : ¬ listed.getD j true = true := fun h => by
                have := (hst j oj h1 h2 h3).1 h
                omega
              simp only [this]; simp; omega
        have hgo := ih _ _ w' (i + 1) hsz' hlow' hfew' hsome' hag' (by omega) (by omega) hst' hs' hsz2
        rcases hnx with rfl | ⟨rfl, hu⟩
        · simp only [Oper.uponIn]; exact hgo
        · simp only [Oper.uponIn]
          rw [hu] at hgo; exact hgo

/-- What is left to walk of such a region, from operation i on; s: how many blocks there are. -/
def AL (c : Cx) (l : List Oper) (F F2 : Know) (own' : Own) (cl : Bool) (Q : Exit → Act → World → Prop) (i : Nat) (env : Env) (own : Own) (s : Nat) : Prop :=
  ∃ (envs : Nat → Env) (owns : Nat → Own) (szs : Nat → Nat) (vals : Nat → Value), envs i = env ∧ owns i = own ∧ szs i = s ∧ (∀ j, i ≤ j → j < l.length → StepOk c l.toArray F F2 own' cl envs owns szs vals j) ∧
    (∀ j, i ≤ j → j ≤ l.length → ∀ w, Sat c F (owns j) w → Sat c F2 own' w) ∧ TK c (envs l.length) F (owns l.length) (Q .normal)

section
variable {env : Env} {own : Own} {cl : Bool} {s : Nat} {Q : Exit → Act → World → Prop} {l : List Oper} {i : Nat}
theorem lk_false {n k j : Nat} (h : (lk n k).getD j true = false) : j < n ∧ k ≤ j := by
  rcases Nat.lt_or_ge j n with hj | hj
  · rw [lk_get true hj] at h; simp at h; omega
  · have : (lk n k).size ≤ j := by rw [lk_size]; exact hj
    simp [Array.getElem?_eq_none this] at h
theorem r_allS (cl : Bool) (hB : allB l.toArray k = true) (hK : ∀ w, Sat c F own w → Sat c F2 own' w ∧ Incl F F2) (h : Incl F F2 → ∀ s, AL c l F F2 own' cl Q k env own s) : R c true l.toArray Q k env F own := by
  intro a w hd
  obtain ⟨envs, owns, szs, vals, h1, h2, h2b, h3, h4, h5⟩ := h (hK w hd.sat).2 w.heap.size
  have hA := allB_spec hB
  have hle : k ≤ l.length := by simpa using hA.le
  simp only [RestOf]
  refine all_run (a0 := a) hA (cl := cl) (envs := envs) (owns := owns) (szs := szs) (vals := vals) (by rw [h1]; exact hd.env) (by simpa using h3) (by simpa using h4) (by simpa using h5) _ _ a w k (lk_size _ _) (fun j hj => ?_) ?_ ?_ ⟨hd.env.size, hd.env.defers, fun j t h1 h2 h3 => ?_, fun _ _ => rfl⟩ (Nat.le_refl _) (by simpa using hle) (fun j o h1 h2 h3 => ?_) (by rw [h2]; exact hd.sat) (fun _ => h2b.symm)
  · rw [lk_get true (by simp; omega)]; simp; exact hj
  · intro m hn hm
    exact few_lk (n := l.toArray.size) (by simp) m hn fun j hj => ⟨(lk_false (hm j hj)).1, hm j hj⟩
  · refine ⟨List.range' k (l.toArray.size - k), List.nodup_range', fun j => ?_, by simp⟩
    rw [List.mem_range'_1]
    constructor
    · intro hj
      rw [lk_get true (by omega)]
      simp; omega
    · intro hj
      have := lk_false hj
      omega
  · have := dst_lt h2
    rw [lk_get true this] at h3
    simp at h3; omega
  · have hj := (Array.getElem?_eq_some_iff.1 h2).1
    rw [lk_get true hj]
    simp
theorem r_all (hB : allB l.toArray k = true) (hK : ∀ w, Sat c F own w → Sat c F2 own' w ∧ Incl F F2) (h : Incl F F2 → ∀ s, AL c l F F2 own' false Q k env own s) : R c true l.toArray Q k env F own := r_allS false hB hK h

theorem al_step {o : Oper} {v : Value} {env2 : Env} {own2 : Own} {s2 : Nat} (ho : nthO l i = some o)
    (hS : ∀ (envs : Nat → Env) (owns : Nat → Own) (szs : Nat → Nat) (vals : Nat → Value), envs i = env → owns i = own → szs i = s → vals i = v → envs (i + 1) = env2 → owns (i + 1) = own2 → szs (i + 1) = s2 → StepOk c l.toArray F F2 own' cl envs owns szs vals i)
    (hK : ∀ w, Sat c F own w → Sat c F2 own' w) (h : AL c l F F2 own' cl Q (i + 1) env2 own2 s2) : AL c l F F2 own' cl Q i env own s := by
  obtain ⟨envs, owns, szs, vals, h1, h2, h2b, h3, h4, h5⟩ := h
  have hil : i < l.length := by
    have := ho
    rw [nthO_eq] at this
    simpa using (Array.getElem?_eq_some_iff.1 this).1
  refine ⟨fun j => if j ≤ i then env else envs j, fun j => if j ≤ i then own else owns j, fun j => if j ≤ i then s else szs j, fun j => if j ≤ i then v else vals j, if_pos (Nat.le_refl _), if_pos (Nat.le_refl _), if_pos (Nat.le_refl _), fun j hj hjl => ?_, fun j hj hjl w hs => ?_, ?_⟩
  · by_cases e : j = i
    · subst e
      refine hS _ _ _ _ (if_pos (Nat.le_refl _)) (if_pos (Nat.le_refl _)) (if_pos (Nat.le_refl _)) (if_pos (Nat.le_refl _)) ?_ ?_ ?_
      · simp only [show ¬ j + 1 ≤ j by omega, if_false]; exact h1
      · simp only [show ¬ j + 1 ≤ j by omega, if_false]; exact h2
      · simp only [show ¬ j + 1 ≤ j by omega, if_false]; exact h2b
    · obtain ⟨o', k1, k2⟩ := h3 j (by omega) hjl
      refine ⟨o', k1, ?_⟩
      simp only [show ¬ j ≤ i by omega, show ¬ j + 1 ≤ i by omega, if_false]
      exact k2
  · by_cases e : j = i
    · subst e
      simp only [Nat.le_refl, if_true] at hs
      exact hK w hs
    · simp only [show ¬ j ≤ i by omega, if_false] at hs
      exact h4 j (by omega) hjl w hs
  · simp only [show ¬ l.length ≤ i by omega, if_false]
    exact h5
theorem AL.cls (h : AL c l F F2 own' cl Q i env own s) (hi : i ≤ l.length) : ∀ w, Sat c F own w → Sat c F2 own' w := by
  obtain ⟨envs, owns, szs, vals, h1, h2, h2b, h3, h4, h5⟩ := h
  intro w hs
  exact h4 i (Nat.le_refl _) hi w (by rw [h2]; exact hs)
theorem nthO_lt {o : Oper} (ho : nthO l i = some o) : i < l.length := by
  rw [nthO_eq] at ho
  simpa using (Array.getElem?_eq_some_iff.1 ho).1
theorem al_detP {o : Oper} {v : Value} {t : Tmp} (ho : nthO l i = some o) (hD : Det c F2 own' env o v) (ht : o.dst = some t) (hd : Nat.blt t c.n = true) (hns : isStore o = false) (hp : plainOp o.op = true) (h : AL c l F F2 own' cl Q (i + 1) ((t, v) :: env) own s) : AL c l F F2 own' cl Q i env own s :=
  al_step ho (fun envs owns szs vals e1 e2 e3 e4 e5 e6 e7 => ⟨o, by rw [← nthO_eq]; exact ho, .inl ⟨hns, by rw [ht]; exact hd, ⟨by rw [e1, e4]; exact hD, fun _ => hp⟩, by rw [e5, e1, e4, ht]; rfl, by rw [e6, e2], by rw [e7, e3]⟩⟩) (h.cls (nthO_lt ho)) h
theorem al_det {o : Oper} {v : Value} {t : Tmp} (ho : nthO l i = some o) (hD : Det c F2 own' env o v) (ht : o.dst = some t) (hd : Nat.blt t c.n = true) (hns : isStore o = false) (h : AL c l F F2 own' false Q (i + 1) ((t, v) :: env) own s) : AL c l F F2 own' false Q i env own s :=
  al_step ho (fun envs owns szs vals e1 e2 e3 e4 e5 e6 e7 => ⟨o, by rw [← nthO_eq]; exact ho, .inl ⟨hns, by rw [ht]; exact hd, ⟨by rw [e1, e4]; exact hD, fun h => by cases h⟩, by rw [e5, e1, e4, ht]; rfl, by rw [e6, e2], by rw [e7, e3]⟩⟩) (h.cls (nthO_lt ho)) h
theorem al_str {o : Oper} {own2 : Own} (ho : nthO l i = some o) (hst : isStore o = true) (hdn : o.dst = none) (hnd : ∀ cc, o.op ≠ .defer cc) (hS : ∀ a w, EnvOk c.n c.df env a → Sat c F own w → ∃ w', (execOp a.eval o).run c.P w = .ok .skip w' ∧ Sat c F own2 w' ∧ w'.heap.size = w.heap.size) (hK : ∀ w, Sat c F own w → Sat c F2 own' w) (h : AL c l F F2 own' cl Q (i + 1) env own2 s) : AL c l F F2 own' cl Q i env own s :=
  al_step (v := undef) ho (fun envs owns szs vals e1 e2 e3 e4 e5 e6 e7 => ⟨o, by rw [← nthO_eq]; exact ho, .inr ⟨hst, by rw [hdn]; rfl, hnd, by rw [e5, e1, hdn]; rfl, fun a w he hs hz => by
    obtain ⟨w', k1, k2, k3⟩ := hS a w (by rw [← e1]; exact he) (by rw [← e2]; exact hs)
    exact ⟨.skip, w', k1, .inr ⟨rfl, e4⟩, by rw [e6]; exact k2, fun hc => by rw [k3, hz hc, e3, e7]⟩⟩⟩) hK h
/-- A block is made. -/
theorem al_new {o : Oper} {v : Nat → Value} {ob : Nat → Obj} {t : Tmp} (ho : nthO l i = some o) (hN : New c F own env o (fun p u b => u = v p ∧ b = ob p)) (ht : o.dst = some t) (hd : Nat.blt t c.n = true) (hst : isStore o = true) (hnd : ∀ cc, o.op ≠ .defer cc) (hK : ∀ w, Sat c F own w → Sat c F2 own' w)
    (h : ∀ p, AL c l F F2 own' true Q (i + 1) ((t, v p) :: env) ((p, ob p) :: own) (s + 1)) : AL c l F F2 own' true Q i env own s :=
  al_step (v := v s) ho (fun envs owns szs vals e1 e2 e3 e4 e5 e6 e7 => ⟨o, by rw [← nthO_eq]; exact ho, .inr ⟨hst, by rw [ht]; exact hd, hnd, by rw [e5, e1, e4, ht]; rfl, fun a w he hs hz => by
    obtain ⟨u, w', b, k1, k2, k3, k4⟩ := hN a (by rw [← e1]; exact he) w (by rw [← e2]; exact hs)
    have hsz := hz rfl
    rw [e3] at hsz
    subst k3; subst k4
    refine ⟨.value _, w', k1, .inl (by rw [hsz, e4]), ?_, fun _ => by rw [k2.size, hsz, e7]⟩
    have hj := (hs.keep' k2.keep).join (n0 := w.heap.size) (L := [(w.heap.size, ob w.heap.size)]) hs.ownlt hs.knowlt hs.keep.size (by simp) (fun x hx => by rw [List.mem_singleton] at hx; subst hx; exact ⟨Nat.le_refl _, k2.new⟩)
    rw [e6, ← hsz, ← e2]; exact hj⟩⟩) hK (h s)
theorem al_end (hl : l.length = i) (hK : ∀ w, Sat c F own w → Sat c F2 own' w) (h : TK c env F own (Q .normal)) : AL c l F F2 own' cl Q i env own s := by
  refine ⟨fun _ => env, fun _ => own, fun _ => s, fun _ => undef, rfl, rfl, rfl, fun j h1 h2 => by omega, fun _ _ _ => hK, h⟩

variable {ty : TypeId} {ps : String} {af : Array Edge} {g : Option (Nat × Bool)}
theorem al_stN {t : TypeId} {n : Nat} {x y : Operand} {A : Addr} {p j : Nat} {vs cs cs' : List Value} {T : TypeId} {v : Value} {own2 : Own} (ho : nthO l i = some ⟨none, .store t x y, ty, ps, af, g⟩) (ht : ∀ w : World, (sizeOf t).run c.P w = .ok n w) (hx : Env.ev env x = some (.pointer (some A))) (hA : A = ⟨p, j, none⟩) (hy : Env.ev env y = some v) (hvc : v.cells = vs.toArray)
    (hu : Upd p (.cells cs.toArray T (0, 0)) (.cells cs'.toArray T (0, 0)) own own2) (hs : setV j vs cs some = some cs') (hn : vs.length = n) (hv : vs.all oneCell = true) (hK : ∀ w, Sat c F own w → Sat c F2 own' w) (h : AL c l F F2 own' cl Q (i + 1) env own2 s) : AL c l F F2 own' cl Q i env own s := by
  refine al_str ho rfl rfl (fun cc h => by cases h) (fun a w he hsat => ?_) hK h
  subst hA
  obtain ⟨h1, h2⟩ := setV_some hs
  simp only [Option.some.injEq] at h2
  refine ⟨setBlk w p (.cells cs'.toArray T (0, 0)), ?_, hsat.upd hu, by simp [setBlk]⟩
  have hr := run_storeAt (P := c.P) (w := w) (t := t) (n := n) (k := j) ht hvc hn (hsat.own _ hu.mem) h1 hv
  rw [h2] at hr
  simp only [execOp, he.eval hx, he.eval hy, Sem.run_bind, hr, Result.andThen_ok, Sem.run_pure]
theorem al_st1 {t : TypeId} {x y : Operand} {A : Addr} {p j : Nat} {cs cs' : List Value} {T : TypeId} {v : Value} {own2 : Own} (ho : nthO l i = some ⟨none, .store t x y, ty, ps, af, g⟩) (ht : TOne c.P t) (hx : Env.ev env x = some (.pointer (some A))) (hA : A = ⟨p, j, none⟩) (hy : Env.ev env y = some v)
    (hu : Upd p (.cells cs.toArray T (0, 0)) (.cells cs'.toArray T (0, 0)) own own2) (hs : setV j [v] cs some = some cs') (hv : oneCell v = true) (hK : ∀ w, Sat c F own w → Sat c F2 own' w) (h : AL c l F F2 own' cl Q (i + 1) env own2 s) : AL c l F F2 own' cl Q i env own s :=
  al_stN ho ht.size hx hA hy (by cases v <;> simp [oneCell] at hv <;> rfl) hu hs rfl (by simp [hv]) hK h
/-- The cells outside stay. -/
theorem outB {cs cs' : List Value} (J N : Nat) (h1 : cs'.take J = cs.take J) (h2 : cs'.drop (J + N) = cs.drop (J + N)) : ∀ k, (k < J ∨ J + N ≤ k) → cs'.toArray[k]? = cs.toArray[k]? := by
  intro k hk
  rw [List.getElem?_toArray, List.getElem?_toArray]
  rcases hk with hk | hk
  · have := congrArg (fun l => l[k]?) h1
    simpa [List.getElem?_take, hk] using this
  · have := congrArg (fun l => l[k - (J + N)]?) h2
    simp only [List.getElem?_drop] at this
    rwa [show J + N + (k - (J + N)) = k by omega] at this
end
end
end Go.Eng
