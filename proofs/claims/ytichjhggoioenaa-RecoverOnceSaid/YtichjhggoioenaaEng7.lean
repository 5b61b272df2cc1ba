/-
  The engine, part 7: calls that write what they were lent; calls that hand back memory of their own.
-/
import Derived.Test.YtichjhggoioenaaEng5
namespace Go.Eng
open Go

abbrev idsO (own : Own) : List Nat := own.map (·.1)

/-- A call that was lent the blocks cp: it hands back a value, and the blocks as it left them; nothing else that was there has turned. -/
def CallsOn (P : Program) (f : FuncId) (args : List Value) (w : World) (cp : Own) (R : Value → Own → Prop) : Prop :=
  Calls P f args.toArray w fun e w' => ∃ v cp', e = .returned v ∧ idsO cp' = idsO cp ∧ (∀ x ∈ cp', w'.heap[x.1]? = some x.2) ∧ Keep (idsO cp) w w' ∧ R v cp'

/-- A call that may hand back memory that it made: what holds of it, in whatever is known of memory behind it. -/
def CallsF (P : Program) (f : FuncId) (args : List Value) (w : World) (F : Know) (R : Value → Know → Prop) : Prop :=
  Calls P f args.toArray w fun e w' => ∃ v, e = .returned v ∧ Keep [] w w' ∧
    ∀ F' : Know, (∀ a u, F a = some u → F' a = some u) → (∀ a u, w.heap.size ≤ a.block → w'.cell? a = some u → F' a = some u) → R v F'

theorem Pure.on {P : Program} {F : Know} {f : FuncId} {args : List Value} {w : World} {v : Value} (h : Pure P f args w v) : CallsF P f args w F (fun u _ => u = v) :=
  Calls.mono h fun _ _ ⟨h1, h2⟩ => ⟨v, h1, h2, fun _ _ _ => rfl⟩

section
variable {c : Cx} {env : Env} {F : Know} {own : Own} {Q : Exit → Act → World → Prop}
variable {d : Option Tmp} {ty : TypeId} {ps : String} {af : Array Edge} {g : Option (Nat × Bool)} {l : List Oper} {k : Nat} {draw : Bool}

theorem Sat.lent {cp cp' rest : Own} {w w' : World} (h : Sat c F (cp ++ rest) w) (hi : idsO cp' = idsO cp) (hc : ∀ x ∈ cp', w'.heap[x.1]? = some x.2) (hk : Keep (idsO cp) w w') : Sat c F (cp' ++ rest) w' := by
  have hids : (cp' ++ rest).map (·.1) = (cp ++ rest).map (·.1) := by simp only [List.map_append]; rw [show cp'.map (·.1) = cp.map (·.1) from hi]
  have hin : ∀ i ∈ idsO cp, c.w0.heap.size ≤ i ∨ i ∈ c.S := fun i hm => by
    obtain ⟨x, hx, rfl⟩ := List.mem_map.1 hm
    exact h.ids x (List.mem_append_left _ hx)
  refine ⟨⟨hk.os.trans h.keep.os, hk.tape.trans h.keep.tape, hk.output.trans h.keep.output, Nat.le_trans h.keep.size hk.size, fun b hb hs => ?_⟩, fun a v ha => ?_, fun a v ha => by rw [hids]; exact h.away a v ha, by rw [hids]; exact h.nodup, fun x hx => ?_, fun x hx => ?_⟩
  · have hn : b ∉ idsO cp := fun hm => by
      rcases hin b hm with h1 | h1
      · omega
      · exact hs h1
    exact (hk.old b (Nat.lt_of_lt_of_le hb h.keep.size) hn).trans (h.keep.old b hb hs)
  · refine hk.cell (h.know a v ha) fun hm => h.away a v ha ?_
    rw [List.map_append]; exact List.mem_append_left _ hm
  · rcases List.mem_append.1 hx with hx | hx
    · exact hin x.1 (hi ▸ List.mem_map_of_mem hx)
    · exact h.ids x (List.mem_append_right _ hx)
  · rcases List.mem_append.1 hx with hx | hx
    · exact hc x hx
    · refine hk.block (h.own x (List.mem_append_right _ hx)) fun hm => ?_
      have hn := h.nodup
      rw [List.map_append, List.nodup_append] at hn
      exact hn.2.2 x.1 hm x.1 (List.mem_map_of_mem hx) rfl

theorem Sat.more {F' : Know} {w : World} (h : Sat c F own w) (h1 : ∀ a u, F' a = some u → w.cell? a = some u) (h2 : ∀ a u, F' a = some u → a.block ∉ own.map (·.1)) : Sat c F' own w :=
  ⟨h.keep, h1, h2, h.nodup, h.ids, h.own⟩

/-- A call that was lent blocks. -/
theorem oOn {x : Operand} {f : FuncId} {us caps : List Value} {args : List Operand} {ts : Array TypeId} {vs : List Value} {cp rest : Own} {t : Tmp} {Rel : Value → Own → Prop} (hB : draw = true → aloneB l.toArray k = true)
    (ho : nthO l k = some ⟨some t, .call { callee := .value x, args := args.toArray, argTypes := ts }, ty, ps, af, g⟩) (hb : HasBody c.P f) (hx : Env.ev env x = some (.func (.func f) us.toArray caps.toArray)) (hv : args.mapM (Env.ev env) = some vs)
    (hd : Nat.blt t c.n = true) (hw : wantedB l.toArray env ⟨some t, .call { callee := .value x, args := args.toArray, argTypes := ts }, ty, ps, af, g⟩)
    (h : ∀ w, Sat c F (cp ++ rest) w → CallsOn c.P f (us ++ vs ++ caps) w cp Rel) (hn : ∀ v cp', Rel v cp' → idsO cp' = idsO cp → R c draw l.toArray Q (k + 1) ((t, v) :: env) F (cp' ++ rest)) : R c draw l.toArray Q k env F (cp ++ rest) := by
  refine r_call (by rw [← nthO_eq]; exact ho) hB (by simpa using hd) hw hb hx hv fun w hs => (h w hs).mono fun e w' he => ?_
  obtain ⟨v, cp', h1, h2, h3, h4, h5⟩ := he
  exact ⟨v, h1, F, cp' ++ rest, hs.lent h2 h3 h4, hn v cp' h5 h2⟩

/-- A call that hands back memory. -/
theorem oF {x : Operand} {f : FuncId} {us caps : List Value} {args : List Operand} {ts : Array TypeId} {vs : List Value} {t : Tmp} {Rel : Value → Know → Prop} (hB : draw = true → aloneB l.toArray k = true)
    (ho : nthO l k = some ⟨some t, .call { callee := .value x, args := args.toArray, argTypes := ts }, ty, ps, af, g⟩) (hb : HasBody c.P f) (hx : Env.ev env x = some (.func (.func f) us.toArray caps.toArray)) (hv : args.mapM (Env.ev env) = some vs)
    (hd : Nat.blt t c.n = true) (hw : wantedB l.toArray env ⟨some t, .call { callee := .value x, args := args.toArray, argTypes := ts }, ty, ps, af, g⟩)
    (h : ∀ w, Sat c F own w → CallsF c.P f (us ++ vs ++ caps) w F Rel) (hn : ∀ v F', Incl F F' → Fresh c F F' → Rel v F' → R c draw l.toArray Q (k + 1) ((t, v) :: env) F' own) : R c draw l.toArray Q k env F own := by
  refine r_call (by rw [← nthO_eq]; exact ho) hB (by simpa using hd) hw hb hx hv fun w hs => (h w hs).mono fun e w' he => ?_
  obtain ⟨v, h1, h2, h3⟩ := he
  obtain ⟨h4, h5, h6, h7⟩ := (hs.keep' h2).news w.heap.size hs.keep.size
  exact ⟨v, h1, _, own, h4, hn v _ h5 h6 (h3 _ h5 fun a u g1 g2 => h7 a u g1 (fun hm => by
    obtain ⟨x, hx, e⟩ := List.mem_map.1 hm
    have := hs.ownlt x hx
    omega) g2)⟩

/-- The beginning of a function that was lent blocks. -/
theorem fn_on {P : Program} {f : FuncId} {fn : Func} {code : Code} {args : List Value} {n : Nat} {w : World} {F : Know} {cp : Own} {Rel : Value → Own → Prop} (hf : P.funcs[f]? = some fn) (hb : fn.body = some code) (hn : fn.ntmps = n) (hlen : Nat.ble args.length n = true)
    (hF : ∀ a v, F a = some v → w.cell? a = some v) (haway : ∀ a v, F a = some v → a.block ∉ idsO cp) (hnd : (idsO cp).Nodup) (hown : ∀ x ∈ cp, w.heap[x.1]? = some x.2)
    (h : T ⟨P, n, w, idsO cp, none, []⟩ (mkEnv 0 args) F cp code (bodyQ P fn (fun e w' => ∃ v cp', e = .returned v ∧ idsO cp' = idsO cp ∧ (∀ x ∈ cp', w'.heap[x.1]? = some x.2) ∧ Keep (idsO cp) w w' ∧ Rel v cp'))) : CallsOn P f args w cp Rel :=
  fn_enter hf hb hn (Nat.le_of_ble_eq_true hlen) hF haway hnd (fun _ hx => List.mem_map_of_mem hx) hown h

theorem end_on {P : Program} {n : Nat} {w w1 : World} {F : Know} {cp bs cp' : Own} {v : Value} {Rel : Value → Own → Prop} (hs : Sat ⟨P, n, w, idsO cp, none, []⟩ F (bs ++ cp') w1) (hi : idsO cp' = idsO cp) (h : Rel v cp') :
    ∃ u cq, Ending.returned v = .returned u ∧ idsO cq = idsO cp ∧ (∀ x ∈ cq, w1.heap[x.1]? = some x.2) ∧ Keep (idsO cp) w w1 ∧ Rel u cq :=
  ⟨v, cp', rfl, hi, fun x hx => hs.own x (List.mem_append_right _ hx), hs.keep, h⟩

/-- The beginning of a function that hands back memory: F0 is what may be leaned on later. -/
theorem fn_fresh {P : Program} {f : FuncId} {fn : Func} {code : Code} {args : List Value} {n : Nat} {w : World} {F0 F : Know} {Rel : Value → Know → Prop} (hf : P.funcs[f]? = some fn) (hb : fn.body = some code) (hn : fn.ntmps = n) (hlen : Nat.ble args.length n = true)
    (hF : ∀ a v, F a = some v → w.cell? a = some v)
    (h : T ⟨P, n, w, [], none, []⟩ (mkEnv 0 args) F [] code (bodyQ P fn (fun e w' => ∃ v, e = .returned v ∧ Keep [] w w' ∧ ∀ F' : Know, (∀ a u, F0 a = some u → F' a = some u) → (∀ a u, w.heap.size ≤ a.block → w'.cell? a = some u → F' a = some u) → Rel v F'))) : CallsF P f args w F0 Rel :=
  fn_enter hf hb hn (Nat.le_of_ble_eq_true hlen) hF (fun _ _ _ h => by cases h) (by simp) (fun _ h => by cases h) (fun _ h => by cases h) h

/-- The end of one: of the knowledge G that holds there, and of one's own blocks, what follows for all that may be known later. -/
theorem end_fresh {P : Program} {n : Nat} {w w1 : World} {F0 G : Know} {own : Own} {v : Value} {Rel : Value → Know → Prop} (hs : Sat ⟨P, n, w, [], none, []⟩ G own w1)
    (h : ∀ F' : Know, (∀ a u, F0 a = some u → F' a = some u) → (∀ a u, G a = some u → w.heap.size ≤ a.block → F' a = some u) → (∀ p cs t fr k, (p, Obj.cells cs t fr) ∈ own → ∀ u, cs[k]? = some u → F' ⟨p, k, none⟩ = some u) → Rel v F') :
    ∃ u, Ending.returned v = .returned u ∧ Keep [] w w1 ∧ ∀ F' : Know, (∀ a u, F0 a = some u → F' a = some u) → (∀ a u, w.heap.size ≤ a.block → w1.cell? a = some u → F' a = some u) → Rel u F' := by
  refine ⟨v, rfl, hs.keep, fun F' h1 h2 => h F' h1 (fun a u ha hb => h2 a u hb (hs.know a u ha)) fun p cs t fr k hm u hu => h2 _ u ?_ ?_⟩
  · rcases hs.ids _ hm with h3 | h3
    · exact h3
    · cases h3
  · have := hs.own _ hm
    simp only at this
    simp [World.cell?, this, hu]

/-- The knowledge may be the larger one from the beginning: a function that hands back what came in. -/
theorem CallsF.incl {P : Program} {f : FuncId} {args : List Value} {w : World} {F0 F : Know} {R : Value → Know → Prop} (h : CallsF P f args w F0 R) (hF : ∀ a u, F0 a = some u → F a = some u) : CallsF P f args w F R :=
  Calls.mono h fun _ _ ⟨v, h1, h2, h3⟩ => ⟨v, h1, h2, fun F' h4 h5 => h3 F' (fun a u ha => h4 a u (hF a u ha)) h5⟩
/-- Nothing that is known ahead. -/
def noK : Know := fun _ => none
theorem CallsF.any {P : Program} {f : FuncId} {args : List Value} {w : World} {F : Know} {R : Value → Know → Prop} (h : CallsF P f args w noK R) : CallsF P f args w F R := h.incl fun _ _ h => by cases h
theorem CallsF.mono {P : Program} {f : FuncId} {args : List Value} {w : World} {R R' : Value → Know → Prop} (h : CallsF P f args w F R) (hr : ∀ v F', R v F' → R' v F') : CallsF P f args w F R' :=
  Calls.mono h fun _ _ ⟨v, h1, h2, h3⟩ => ⟨v, h1, h2, fun F' h4 h5 => hr v F' (h3 F' h4 h5)⟩
theorem CallsOn.mono {P : Program} {f : FuncId} {args : List Value} {w : World} {cp : Own} {R R' : Value → Own → Prop} (h : CallsOn P f args w cp R) (hr : ∀ v cp', idsO cp' = idsO cp → R v cp' → R' v cp') : CallsOn P f args w cp R' :=
  Calls.mono h fun _ _ ⟨v, cp', h1, h2, h3, h4, h5⟩ => ⟨v, cp', h1, h2, h3, h4, hr v cp' h2 h5⟩

/-- One's own blocks in another order. -/
theorem tk_perm {K : Act → World → Prop} {own' : Own} (hp : own.Perm own') (h : TK c env F own' K) : TK c env F own K := fun a w hd =>
  h a w ⟨hd.env, hd.sat.keep, hd.sat.know, fun a v ha hm => hd.sat.away a v ha ((hp.map _).mem_iff.2 hm), (hp.map _).nodup_iff.1 hd.sat.nodup, fun x hx => hd.sat.ids x (hp.mem_iff.2 hx), fun x hx => hd.sat.own x (hp.mem_iff.2 hx)⟩

end
end Go.Eng
namespace Go.Eng
open Go
section
variable {c : Cx} {env : Env} {F : Know} {own : Own} {Q : Exit → Act → World → Prop}
variable {d : Option Tmp} {ty : TypeId} {ps : String} {af : Array Edge} {g : Option (Nat × Bool)} {l : List Oper} {k : Nat} {draw : Bool}

theorem Sat.perm {own' : Own} {w : World} (h : Sat c F own w) (hp : own.Perm own') : Sat c F own' w :=
  ⟨h.keep, h.know, fun a v ha hm => h.away a v ha ((hp.map _).mem_iff.2 hm), (hp.map _).nodup_iff.1 h.nodup, fun x hx => h.ids x (hp.mem_iff.2 hx), fun x hx => h.own x (hp.mem_iff.2 hx)⟩

/-- A call that was lent blocks, which stand behind others. -/
theorem oOnS {x : Operand} {f : FuncId} {us caps : List Value} {args : List Operand} {ts : Array TypeId} {vs : List Value} {pre cp : Own} {t : Tmp} {Rel : Value → Own → Prop} (hB : draw = true → aloneB l.toArray k = true)
    (ho : nthO l k = some ⟨some t, .call { callee := .value x, args := args.toArray, argTypes := ts }, ty, ps, af, g⟩) (hb : HasBody c.P f) (hx : Env.ev env x = some (.func (.func f) us.toArray caps.toArray)) (hv : args.mapM (Env.ev env) = some vs)
    (hd : Nat.blt t c.n = true) (hw : wantedB l.toArray env ⟨some t, .call { callee := .value x, args := args.toArray, argTypes := ts }, ty, ps, af, g⟩)
    (h : ∀ w, Sat c F (pre ++ cp) w → CallsOn c.P f (us ++ vs ++ caps) w cp Rel) (hn : ∀ v cp', Rel v cp' → idsO cp' = idsO cp → R c draw l.toArray Q (k + 1) ((t, v) :: env) F (pre ++ cp')) : R c draw l.toArray Q k env F (pre ++ cp) :=
  tk_perm List.perm_append_comm (oOn hB ho hb hx hv hd hw (fun w hs => h w (hs.perm List.perm_append_comm)) fun v cp' hr hi => tk_perm List.perm_append_comm (hn v cp' hr hi))
/-- A call that hands back memory, among others that may come up in any order. -/
theorem mem_call {F0 : Know} (h0 : Incl F0 F) {x : Operand} {f : FuncId} {us caps : List Value} {args : List Operand} {ts : Array TypeId} {vs : List Value} {Rl : Value → Know → Prop} (hb : HasBody c.P f) (hx : Env.ev env x = some (.func (.func f) us.toArray caps.toArray)) (hv : args.mapM (Env.ev env) = some vs)
    (h : ∀ w, Sat c F own w → CallsF c.P f (us ++ vs ++ caps) w F0 Rl) : Mem c F0 F own env ⟨d, .call { callee := .value x, args := args.toArray, argTypes := ts }, ty, ps, af, g⟩ Rl := by
  intro a ha w hw
  rw [run_call ha hb hx hv]
  refine ⟨rfl, Calls.mono (h w hw) fun e w' he => ?_⟩
  obtain ⟨v, h1, h2, h3⟩ := he
  refine ⟨v, h1, h2, ⟨fun a => w'.cell? a, h3 _ (fun a u ha => (hw.keep' h2).know a u (h0 a u ha)) fun a u _ hu => hu⟩, fun F' hF hK => h3 F' hF fun a u hlo hu => ?_⟩
  have hlt := cell_lt hu
  have hm : (a.block, w'.heap.getD a.block (.cells #[] 0)) ∈ newsOf w w' := List.mem_map.2 ⟨a.block, by rw [List.mem_range'_1]; omega, rfl⟩
  refine hK _ hm a u rfl ?_
  have h4 := (newsOf_mem hm).2
  rw [cell_objCell h4] at hu
  exact hu
end
end Go.Eng
