/-
  The texts Eng4 to Eng11, one after the other.
-/
import Derived.Test.YtffocfffggfenaaEng1ToEng3PportKnownhol
import Derived.ScopeJumps
import Derived.Laws.AppendOwn
import Derived.Laws.MakeOwn
import Derived.Laws.StructEq
/-
  The engine, part 4: memory, calls, the beginning and the end of a function.
-/
namespace Go.Eng
open Go
section
variable {c : Cx} {env : Env} {F : Know} {own : Own} {Q : Exit → Act → World → Prop}
variable {d : Option Tmp} {ty : TypeId} {ps : String} {af : Array Edge} {g : Option (Nat × Bool)}
theorem add_mk (p k n : Nat) : (⟨p, k, none⟩ : Addr).add n = ⟨p, k + n, none⟩ := by
  unfold Addr.add; split
  · simp_all
  · rfl
theorem add_add (a : Addr) (m n : Nat) : (a.add m).add n = a.add (m + n) := by
  unfold Addr.add
  by_cases hm : m = 0
  · simp [hm]
  · by_cases hn : n = 0
    · simp [hn]
    · simp [hm, hn, Nat.add_assoc]
theorem cell_of {w : World} {p k : Nat} {cs : List Value} {t : TypeId} {fr : Nat × Nat} (h : w.heap[p]? = some (.cells cs.toArray t fr)) : w.cell? ⟨p, k, none⟩ = cs[k]? := by
  simp [World.cell?, h]
theorem run_load_some {P : Program} {w : World} {a : Addr} {v : Value} (h : w.cell? a = some v) : (load a).run P w = .ok v w := by
  simp [load, Sem.run, h]
theorem run_loadCellsFrom {P : Program} {w : World} {a : Addr} : ∀ (n i : Nat) (acc : Array Value) (r : List Value), r.length = n → (∀ j, j < n → w.cell? (a.add (i + j)) = r[j]?) →
    (loadCellsFrom a i n acc).run P w = .ok (acc ++ r.toArray) w := by
  intro n
  induction n with
  | zero => intro i acc r hr _; have : r = [] := List.eq_nil_of_length_eq_zero hr; subst this; simp [loadCellsFrom]
  | succ n ih =>
    intro i acc r hr h
    cases r with
    | nil => simp at hr
    | cons v r =>
      have h0 := h 0 (by omega)
      simp only [Nat.add_zero, List.getElem?_cons_zero] at h0
      simp only [loadCellsFrom, Sem.run_bind, run_load_some h0, Result.andThen_ok]
      rw [ih (i + 1) (acc.push v) r (by simpa using hr) (fun j hj => by
        have := h (j + 1) (by omega)
        simpa [Nat.add_assoc, Nat.add_comm 1 j] using this)]
      simp
theorem run_loadCells {P : Program} {w : World} {a : Addr} {n : Nat} {r : List Value} (hr : r.length = n) (h : ∀ j, j < n → w.cell? (a.add j) = r[j]?) : (loadCells a n).run P w = .ok r.toArray w := by
  unfold loadCells
  rw [run_loadCellsFrom n 0 #[] r hr (fun j hj => by rw [Nat.zero_add]; exact h j hj)]
  simp
theorem run_loadAt1 {P : Program} {w : World} {t : TypeId} {a : Addr} {v : Value} (ht : TOne P t) (h : w.cell? a = some v) : (Instr.loadAt t (.pointer (some a))).run P w = .ok v w := by
  have := run_load_some (P := P) h
  simp only [Instr.loadAt, Instr.sureAddr, loadVar, Sem.run_bind, Sem.run_pure, Result.andThen_ok, ht.agg, Bool.false_eq_true, if_false, this]
theorem run_loadAtN {P : Program} {w : World} {t : TypeId} {n : Nat} {a : Addr} {r : List Value} (ht : TAgg P t n) (hr : r.length = n) (h : ∀ j, j < n → w.cell? (a.add j) = r[j]?) :
    (Instr.loadAt t (.pointer (some a))).run P w = .ok (.agg r.toArray) w := by
  simp [Instr.loadAt, Instr.sureAddr, loadVar, ht.agg, ht.size, run_loadCells hr h]
theorem det_load1 {t : TypeId} {x : Operand} {A : Addr} {p k : Nat} {cs : List Value} {T : TypeId} {fr : Nat × Nat} {v : Value} (ht : TOne c.P t) (hx : Env.ev env x = some (.pointer (some A))) (hA : A = ⟨p, k, none⟩)
    (hm : (p, Obj.cells cs.toArray T fr) ∈ own) (hv : nthV cs k = some v) : Det c F own env ⟨d, .load t x, ty, ps, af, g⟩ v :=
  det_of fun a ha w hw => by
    subst hA
    rw [nthV_eq] at hv
    have h1 : w.cell? ⟨p, k, none⟩ = some v := by rw [cell_of (hw.own _ hm)]; exact hv
    simp [execOp, ha.eval hx, run_loadAt1 ht h1]
theorem det_loadN {t : TypeId} {x : Operand} {A : Addr} {p k n : Nat} {cs r : List Value} {T : TypeId} {fr : Nat × Nat} (ht : TAgg c.P t n) (hx : Env.ev env x = some (.pointer (some A))) (hA : A = ⟨p, k, none⟩)
    (hm : (p, Obj.cells cs.toArray T fr) ∈ own) (hv : cutV k n cs = some r) : Det c F own env ⟨d, .load t x, ty, ps, af, g⟩ (.agg r.toArray) :=
  det_of fun a ha w hw => by
    subst hA
    have h1 : ∀ j, j < n → w.cell? ((⟨p, k, none⟩ : Addr).add j) = r[j]? := fun j hj => by
      rw [add_mk, cell_of (hw.own _ hm)]
      exact (cutV_get hv hj).1
    have hl : r.length = n := by
      rw [cutV_eq hv]
      rcases cutV_some hv with h | h
      · simp; omega
      · subst h; simp
    simp [execOp, ha.eval hx, run_loadAtN ht hl h1]
theorem det_loadK {t : TypeId} {x : Operand} {A : Addr} {v : Value} (ht : TOne c.P t) (hx : Env.ev env x = some (.pointer (some A))) (hF : F A = some v) : Det c F own env ⟨d, .load t x, ty, ps, af, g⟩ v :=
  det_of fun a ha w hw => by simp [execOp, ha.eval hx, run_loadAt1 ht (hw.know _ _ hF)]
theorem det_loadKN {t : TypeId} {n : Nat} {x : Operand} {A : Addr} {r : List Value} (ht : TAgg c.P t n) (hx : Env.ev env x = some (.pointer (some A))) (hr : r.length = n) (hF : ∀ j, j < n → F (A.add j) = r[j]?) : Det c F own env ⟨d, .load t x, ty, ps, af, g⟩ (.agg r.toArray) :=
  det_of fun a ha w hw => by
    have h1 : ∀ j, j < n → w.cell? (A.add j) = r[j]? := fun j hj => by
      have := hF j hj
      rw [List.getElem?_eq_getElem (by omega)] at this ⊢
      exact hw.know _ _ this
    simp [execOp, ha.eval hx, run_loadAtN ht hr h1]
/-! ### Slices -/
structure SliceOf (P : Program) (t : TypeId) (e : TypeId) (sz : Nat) : Prop where
  ud : P.underlying t = some (.slice e)
  size : ∀ w, (sizeOf e).run P w = .ok sz w
theorem det_indexAddr {t e : TypeId} {sz : Nat} {x y : Operand} {A : Addr} {n cap : Nat} {k : IntKind} {i : Int} (ht : SliceOf c.P t e sz) (hx : Env.ev env x = some (.slice (some A) n cap)) (hy : Env.ev env y = some (.int k i)) (hi : 0 ≤ i ∧ i < n) :
    Det c F own env ⟨d, .indexAddr t x y, ty, ps, af, g⟩ (.pointer (some (A.add (i.toNat * sz)))) :=
  det_of fun a ha w _ => by
    simp [execOp, ha.eval hx, ha.eval hy, Instr.indexAt, asIntOf, run_underlying ht.ud, hi, ht.size]
theorem det_indexAddrA {t e : TypeId} {sz len : Nat} {x y : Operand} {A : Addr} {k : IntKind} {i : Int} (ht : ArrayOf c.P t len e sz) (hx : Env.ev env x = some (.pointer (some A))) (hy : Env.ev env y = some (.int k i)) (hi : 0 ≤ i ∧ i < len) :
    Det c F own env ⟨d, .indexAddr t x y, ty, ps, af, g⟩ (.pointer (some (A.add (i.toNat * sz)))) :=
  det_of fun a ha w _ => by
    simp [execOp, ha.eval hx, ha.eval hy, Instr.indexAt, Instr.sureAddr, asIntOf, run_underlying ht.ud, hi, ht.size]
theorem run_resolve_builtin {P : Program} (w : World) (ρ : Operand → Value) (b : Builtin) (args : Array Operand) (ts : Array TypeId) (t : TypeId) :
    ∃ cs, (resolve ρ { callee := .builtin b, args := args, argTypes := ts } t).run P w = .ok { target := .builtin b ts t cs, args := args.map ρ } w := by
  simp only [resolve, Sem.run_pure]
  exact ⟨_, rfl⟩
theorem run_builtin {P : Program} {w w' : World} {ρ : Operand → Value} {b : Builtin} {args : Array Operand} {ts : Array TypeId} {nx : Next} (h : ∀ cs, (builtin b ts ty cs (args.map ρ)).run P w = .ok nx w') :
    (execOp ρ ⟨d, .call { callee := .builtin b, args := args, argTypes := ts }, ty, ps, af, g⟩).run P w = .ok nx w' := by
  obtain ⟨cs, hr⟩ := run_resolve_builtin (P := P) w ρ b args ts ty
  simp only [execOp, Sem.run_bind, hr, Result.andThen_ok, invoke]
  exact h cs
theorem det_lenS {t e : TypeId} {sz : Nat} {x : Operand} {A : Option Addr} {n cap : Nat} (ht : SliceOf c.P t e sz) (hx : Env.ev env x = some (.slice A n cap)) :
    Det c F own env ⟨d, .call { callee := .builtin .len, args := #[x], argTypes := #[t] }, ty, ps, af, g⟩ (.int .i64 n) :=
  det_of fun a ha w _ => by
    exact run_builtin fun cs => by simp [builtin, Builtin.len_, run_underlying ht.ud, ha.eval hx, goInt]
theorem det_max2 {x y : Operand} {k : IntKind} {m n : Int} {ts : Array TypeId} (hx : Env.ev env x = some (.int k m)) (hy : Env.ev env y = some (.int k n)) :
    Det c F own env ⟨d, .call { callee := .builtin .max, args := #[x, y], argTypes := ts }, ty, ps, af, g⟩ (.int k (max m n)) :=
  det_of fun a ha w _ => by
    have e : (if m < n then n else m) = max m n := by rw [Int.max_def]; split <;> split <;> omega
    exact run_builtin fun cs => by simp [builtin, Builtin.max_, Builtin.max2, ha.eval hx, ha.eval hy, e]
def bndOf (env : List (Nat × Value)) : Option Operand → Option (Option Int)
  | none => some none
  | some o => match Env.ev env o with
    | some (.int .i64 i) => some (some i)
    | _ => none
theorem bnd_map {n : Nat} {df : List Deferred} {env : Env} {a : Act} (ha : EnvOk n df env a) {o : Option Operand} {i : Option Int} (h : bndOf env o = some i) : o.map a.eval = i.map fun i => .int .i64 i := by
  cases o with
  | none => simp [bndOf] at h; subst h; rfl
  | some o =>
    simp only [bndOf] at h
    split at h
    · rename_i j hj; simp at h; subst h; simp [ha.eval hj]
    · cases h
theorem run_sliceBound {P : Program} {w : World} {i : Int} {y : Nat} {code : BoundsCode} (h : 0 ≤ i ∧ i ≤ y) : (Instr.sliceBound (.int .i64 i) y code).run P w = .ok i.toNat w := by
  simp [Instr.sliceBound, asIntOf, h]
theorem run_sliceBounds {P : Program} {w : World} {n cap : Nat} {l h m : Option Int} (hmh : m.isSome = true → h.isSome = true)
    (b : 0 ≤ l.getD 0 ∧ l.getD 0 ≤ h.getD n ∧ h.getD n ≤ m.getD cap ∧ m.getD cap ≤ cap) :
    (Instr.sliceBounds true n cap (l.map fun i => .int .i64 i) (h.map fun i => .int .i64 i) (m.map fun i => .int .i64 i)).run P w = .ok ((l.getD 0).toNat, (h.getD n).toNat, (m.getD cap).toNat) w := by
  obtain ⟨b1, b2, b3, b4⟩ := b
  have e1 : ∀ k : Nat, ((k : Int)).toNat = k := fun k => by omega
  cases m with
  | none =>
    cases h with
    | none =>
      cases l with
      | none => simp [Instr.sliceBounds]
      | some l =>
        simp only [Option.getD_none, Option.getD_some] at b1 b2
        simp [Instr.sliceBounds, run_sliceBound ⟨b1, b2⟩]
    | some h =>
      cases l with
      | none =>
        simp only [Option.getD_none, Option.getD_some] at b1 b2 b3
        simp [Instr.sliceBounds, run_sliceBound ⟨b2, b3⟩]
      | some l =>
        simp only [Option.getD_none, Option.getD_some] at b1 b2 b3
        have h1 := run_sliceBound (P := P) (w := w) (i := l) (y := h.toNat) (code := .sliceB) ⟨b1, by omega⟩
        have h2 := run_sliceBound (P := P) (w := w) (i := h) (y := cap) (code := .sliceAcap) ⟨by omega, b3⟩
        simp [Instr.sliceBounds, h1, h2]
  | some m =>
    cases h with
    | none => simp at hmh
    | some h =>
      cases l with
      | none =>
        simp only [Option.getD_none, Option.getD_some] at b1 b2 b3 b4
        have h1 := run_sliceBound (P := P) (w := w) (i := m) (y := cap) (code := .slice3Acap) ⟨by omega, b4⟩
        have h2 := run_sliceBound (P := P) (w := w) (i := h) (y := m.toNat) (code := .slice3B) ⟨by omega, by omega⟩
        simp [Instr.sliceBounds, h1, h2]
      | some l =>
        simp only [Option.getD_some] at b1 b2 b3 b4
        have h1 := run_sliceBound (P := P) (w := w) (i := m) (y := cap) (code := .slice3Acap) ⟨by omega, b4⟩
        have h2 := run_sliceBound (P := P) (w := w) (i := h) (y := m.toNat) (code := .slice3B) ⟨by omega, by omega⟩
        have h3 := run_sliceBound (P := P) (w := w) (i := l) (y := h.toNat) (code := .slice3C) ⟨b1, by omega⟩
        simp [Instr.sliceBounds, h1, h2, h3]
theorem det_slice {t e : TypeId} {sz : Nat} {x : Operand} {lo hi mx : Option Operand} {A : Option Addr} {n cap : Nat} {l h m : Option Int} (ht : SliceOf c.P t e sz) (hx : Env.ev env x = some (.slice A n cap))
    (hl : bndOf env lo = some l) (hh : bndOf env hi = some h) (hmx : bndOf env mx = some m) (hmh : m.isSome = true → h.isSome = true)
    (b : 0 ≤ l.getD 0 ∧ l.getD 0 ≤ h.getD n ∧ h.getD n ≤ m.getD cap ∧ m.getD cap ≤ cap) :
    Det c F own env ⟨d, .slice t x lo hi mx, ty, ps, af, g⟩ (.slice (if (m.getD cap).toNat = (l.getD 0).toNat then A else A.map (·.add ((l.getD 0).toNat * sz))) ((h.getD n).toNat - (l.getD 0).toNat) ((m.getD cap).toNat - (l.getD 0).toNat)) :=
  det_of fun a ha w _ => by
    simp only [execOp, ha.eval hx, bnd_map ha hl, bnd_map ha hh, bnd_map ha hmx]
    simp [Instr.sliceAt, run_underlying ht.ud, Instr.slice, run_sliceBounds hmh b, ht.size]
/-! ### Function values, pointers -/
theorem det_makeFunc {fn : Fn} {first captured : List Operand} {vs us : List Value} (h1 : first.mapM (Env.ev env) = some vs) (h2 : captured.mapM (Env.ev env) = some us) :
    Det c F own env ⟨d, .makeFunc fn first.toArray captured.toArray, ty, ps, af, g⟩ (.func fn vs.toArray us.toArray) :=
  det_of fun a ha w _ => by
    have key : ∀ (l : List Operand) (vs : List Value), l.mapM (Env.ev env) = some vs → l.toArray.map a.eval = vs.toArray := by
      intro l
      induction l with
      | nil => intro vs h; simp at h; simp [h]
      | cons p r ih =>
        intro vs h
        simp only [List.mapM_cons, Option.bind_eq_bind, Option.bind_eq_some_iff, Option.pure_def, Option.some.injEq] at h
        obtain ⟨u, hu, r', hr', rfl⟩ := h
        have := ih r' hr'
        simp only [List.map_toArray, List.map_cons] at this ⊢
        simp [ha.eval hu] at this ⊢
        exact this
    simp [execOp, key _ _ h1, key _ _ h2, Instr.makeFunc]
theorem det_nilCheck {x : Operand} {A : Addr} (hx : Env.ev env x = some (.pointer (some A))) : Det c F own env ⟨d, .nilCheck x, ty, ps, af, g⟩ (.pointer (some A)) :=
  det_of fun a ha w _ => by simp [execOp, ha.eval hx]
/-! ### New blocks -/
structure ZeroOf (P : Program) (t : TypeId) (z : List Value) : Prop where
  zero : ∀ w, ∃ v, (zeroValue t).run P w = .ok v w ∧ v.cells = z.toArray
theorem run_newVar {P : Program} {w : World} {t : TypeId} {v : Value} : (newVar t v).run P w = .ok ⟨w.heap.size, 0, none⟩ (w.alloc (.cells v.cells t)) := by
  simp [newVar, newRow]
theorem new_alloc {t : TypeId} {z : List Value} (hz : ZeroOf c.P t z) : New c F own env ⟨d, .alloc t, ty, ps, af, g⟩ (fun p v ob => v = .pointer (some ⟨p, 0, none⟩) ∧ ob = .cells z.toArray t (0, 0)) :=
  fun a ha w hw => by
    obtain ⟨u, hu, hc⟩ := hz.zero w
    refine ⟨_, _, _, ?_, Grew.alloc w (.cells z.toArray t (0, 0)), rfl, rfl⟩
    simp [execOp, Instr.alloc, hu, run_newVar, hc]
def cellsL : Value → List Value
  | .agg cs => cs.toList
  | v => [v]
theorem new_box1 {t : TypeId} {x : Operand} {v : Value} (hx : Env.ev env x = some v) (hv : v.cells = #[v]) : New c F own env ⟨d, .box t x, ty, ps, af, g⟩ (fun p u ob => u = .pointer (some ⟨p, 0, none⟩) ∧ ob = .cells [v].toArray t (0, 0)) :=
  fun a ha w hw => by
    refine ⟨_, _, _, ?_, Grew.alloc w (.cells #[v] t (0, 0)), rfl, rfl⟩
    simp [execOp, Instr.box, run_newVar, ha.eval hx, hv]
theorem new_boxN {t : TypeId} {x : Operand} {cs : List Value} (hx : Env.ev env x = some (.agg cs.toArray)) : New c F own env ⟨d, .box t x, ty, ps, af, g⟩ (fun p u ob => u = .pointer (some ⟨p, 0, none⟩) ∧ ob = .cells cs.toArray t (0, 0)) :=
  fun a ha w hw => by
    refine ⟨_, _, _, ?_, Grew.alloc w (.cells cs.toArray t (0, 0)), rfl, rfl⟩
    simp [execOp, Instr.box, run_newVar, ha.eval hx, Value.cells]
theorem new_buildSlice {t e : TypeId} {n : Nat} {parts : List (Nat × Operand)} {vs : List (Nat × Value)} {cs : List Value} (hp : parts.mapM (fun p => (Env.ev env p.2).map fun u => (p.1, u)) = some vs)
    (h : ∀ w, (Instr.buildSlice t n vs.toArray).run c.P w = .ok (.slice (some ⟨w.heap.size, 0, none⟩) n n) (w.alloc (.cells cs.toArray e))) :
    New c F own env ⟨d, .buildSlice t n parts.toArray, ty, ps, af, g⟩ (fun p v ob => v = .slice (some ⟨p, 0, none⟩) n n ∧ ob = .cells cs.toArray e (0, 0)) :=
  fun a ha w hw => by
    have e' : (parts.toArray.map fun (p : Nat × Operand) => (p.1, a.eval p.2)) = vs.toArray := by
      rw [List.map_toArray]
      congr 1
      clear h
      induction parts generalizing vs with
      | nil => simp at hp; simp [hp]
      | cons p r ih =>
        simp only [List.mapM_cons, Option.bind_eq_bind, Option.bind_eq_some_iff, Option.map_eq_some_iff, Option.pure_def, Option.some.injEq] at hp
        obtain ⟨x, ⟨u, hu, rfl⟩, r', hr', rfl⟩ := hp
        simp [ih hr', ha.eval hu]
    refine ⟨_, _, _, ?_, Grew.alloc w (.cells cs.toArray e (0, 0)), rfl, rfl⟩
    simp only [execOp]
    rw [show (fun (x : Nat × Operand) => match x with | (i, x) => (i, a.eval x)) = fun (p : Nat × Operand) => (p.1, a.eval p.2) from rfl, e']
    simp [h]
/-! ### Stores into one's own blocks -/
inductive Upd (p : Nat) (ob ob' : Obj) : Own → Own → Prop
  | head {r : Own} : Upd p ob ob' ((p, ob) :: r) ((p, ob') :: r)
  | tail {x : Nat × Obj} {r r' : Own} : Upd p ob ob' r r' → Upd p ob ob' (x :: r) (x :: r')
  | app {l r r' : Own} : Upd p ob ob' r r' → Upd p ob ob' (l ++ r) (l ++ r')
theorem Upd.mem {p : Nat} {ob ob' : Obj} {r r' : Own} (h : Upd p ob ob' r r') : (p, ob) ∈ r := by
  induction h with
  | head => exact List.mem_cons_self
  | tail _ ih => exact List.mem_cons_of_mem _ ih
  | app _ ih => exact List.mem_append_right _ ih
theorem Upd.ids {p : Nat} {ob ob' : Obj} {r r' : Own} (h : Upd p ob ob' r r') : r'.map (·.1) = r.map (·.1) := by
  induction h with
  | head => rfl
  | tail _ ih => simp [ih]
  | app _ ih => simp [ih]
theorem Upd.new {p : Nat} {ob ob' : Obj} {r r' : Own} (h : Upd p ob ob' r r') (hn : (r.map (·.1)).Nodup) : ∀ x ∈ r', x = (p, ob') ∨ (x ∈ r ∧ x.1 ≠ p) := by
  induction h with
  | @head r =>
    intro x hx
    rcases List.mem_cons.1 hx with rfl | hx
    · exact .inl rfl
    · refine .inr ⟨List.mem_cons_of_mem _ hx, fun e => ?_⟩
      simp only [List.map_cons, List.nodup_cons] at hn
      exact hn.1 (e ▸ List.mem_map_of_mem hx)
  | @tail y r r' h ih =>
    intro x hx
    simp only [List.map_cons, List.nodup_cons] at hn
    rcases List.mem_cons.1 hx with rfl | hx
    · refine .inr ⟨List.mem_cons_self, fun e => hn.1 ?_⟩
      have := List.mem_map_of_mem (f := (·.1)) h.mem
      rw [e]; exact this
    · rcases ih hn.2 x hx with h' | ⟨h1, h2⟩
      · exact .inl h'
      · exact .inr ⟨List.mem_cons_of_mem _ h1, h2⟩
  | @app l r r' h ih =>
    intro x hx
    simp only [List.map_append, List.nodup_append] at hn
    rcases List.mem_append.1 hx with hx | hx
    · refine .inr ⟨List.mem_append_left _ hx, fun e => ?_⟩
      exact hn.2.2 x.1 (List.mem_map_of_mem hx) p (List.mem_map_of_mem (f := (·.1)) h.mem) e
    · rcases ih hn.2.1 x hx with h' | ⟨h1, h2⟩
      · exact .inl h'
      · exact .inr ⟨List.mem_append_right _ h1, h2⟩
def setBlk (w : World) (p : Nat) (ob : Obj) : World := { w with heap := w.heap.setIfInBounds p ob }
theorem Sat.upd {own' : Own} {w : World} {p : Nat} {ob ob' : Obj} (h : Sat c F own w) (hu : Upd p ob ob' own own') : Sat c F own' (setBlk w p ob') := by
  have hp := h.own _ hu.mem
  have hlt := heap_lt hp
  have hget : ∀ b, b ≠ p → (setBlk w p ob').heap[b]? = w.heap[b]? := fun b hb => by simp only [setBlk]; rw [Array.getElem?_setIfInBounds_ne (Ne.symm hb)]
  have hids := hu.ids
  have hmem := hu.mem
  refine ⟨⟨h.keep.os, h.keep.tape, h.keep.output, by simp only [setBlk, Array.size_setIfInBounds]; exact h.keep.size, fun b hb hs => ?_⟩, fun a v ha => ?_, fun a v ha => by rw [hids]; exact h.away a v ha, by rw [hids]; exact h.nodup, fun x hx => ?_, fun x hx => ?_⟩
  · have hne : b ≠ p := by
      rintro rfl
      rcases h.ids _ hmem with h1 | h1
      · exact absurd hb (Nat.not_lt.2 h1)
      · exact hs h1
    rw [hget b hne]; exact h.keep.old b hb hs
  · have hne : a.block ≠ p := fun e => h.away a v ha (by rw [e]; exact List.mem_map_of_mem (f := (·.1)) hmem)
    rw [cell_congr (hget _ hne)]; exact h.know a v ha
  · rcases hu.new h.nodup x hx with rfl | ⟨h1, _⟩
    · have := h.ids (p, ob) hmem; exact this
    · exact h.ids x h1
  · rcases hu.new h.nodup x hx with rfl | ⟨h1, h2⟩
    · simp [setBlk, hlt]
    · rw [hget _ h2]; exact h.own x h1
theorem setBlk_self {w : World} {p : Nat} {ob : Obj} (h : w.heap[p]? = some ob) : setBlk w p ob = w := by
  have hlt := heap_lt h
  have : w.heap.setIfInBounds p ob = w.heap := by
    apply Array.ext
    · simp
    · intro i h1 h2
      rw [Array.getElem_setIfInBounds h2]
      split
      · rename_i e; subst e; rw [Array.getElem?_eq_getElem h2] at h; injection h with h; exact h.symm
      · rfl
  simp [setBlk, this]
theorem setBlk_setBlk {w : World} {p : Nat} {o1 o2 : Obj} : setBlk (setBlk w p o1) p o2 = setBlk w p o2 := by
  simp only [setBlk]
  congr 1
  apply Array.ext
  · simp
  · intro i h1 h2
    simp only [Array.size_setIfInBounds] at h1 h2
    by_cases hp : p = i
    · subst hp; simp
    · simp
def oneCell : Value → Bool
  | .agg _ | .tuple _ => false
  | _ => true
theorem run_store_at {P : Program} {w : World} {p k : Nat} {cs : List Value} {t : TypeId} {v : Value} (h : w.heap[p]? = some (.cells cs.toArray t (0, 0))) (hk : k < cs.length) (hv : oneCell v = true) :
    (store ⟨p, k, none⟩ v).run P w = .ok () (setBlk w p (.cells (cs.set k v).toArray t (0, 0))) := by
  have hc : w.cell? ⟨p, k, none⟩ = some cs[k] := by rw [cell_of h, List.getElem?_eq_getElem hk]
  have hf : w.frozen? ⟨p, k, none⟩ = false := by simp [World.frozen?, h]
  have hset : w.setCell ⟨p, k, none⟩ v = setBlk w p (.cells (cs.set k v).toArray t (0, 0)) := by
    have hlt := heap_lt h
    simp only [World.setCell, setBlk]
    congr 1
    apply Array.ext
    · simp
    · intro i h1 h2
      simp only [Array.size_modify, Array.size_setIfInBounds] at h1 h2
      rw [Array.getElem_setIfInBounds (by simpa using h1), Array.getElem_modify]
      split
      · rename_i e; subst e
        rw [Array.getElem?_eq_getElem hlt] at h
        injection h with h
        rw [h]; simp
      · rfl
  cases v <;> simp [oneCell] at hv <;> simp [store, Sem.run, hc, hf, hset]
theorem splice_nil (cs : List Value) (k : Nat) : splice cs k [] = cs := by simp [splice]
theorem splice_cons {cs : List Value} {k : Nat} {v : Value} {vs : List Value} (h : k < cs.length) : splice cs k (v :: vs) = splice (cs.set k v) (k + 1) vs := by
  simp only [splice, List.length_cons]
  rw [List.take_succ_eq_append_getElem (by simpa using h), List.take_set_of_le (Nat.le_refl k), List.getElem_set_self, List.drop_set_of_lt (by omega)]
  simp [Nat.add_assoc, Nat.add_comm 1 vs.length]
theorem run_storeCells_at {P : Program} {p : Nat} {t : TypeId} : ∀ (vs : List Value) (i k : Nat) (cs : List Value) (w : World), w.heap[p]? = some (.cells cs.toArray t (0, 0)) → k + i + vs.length ≤ cs.length → vs.all oneCell = true →
    (storeCells ⟨p, k, none⟩ vs i).run P w = .ok () (setBlk w p (.cells (splice cs (k + i) vs).toArray t (0, 0))) := by
  intro vs
  induction vs with
  | nil => intro i k cs w h _ _; simp [storeCells, splice_nil, setBlk_self h]
  | cons v vs ih =>
    intro i k cs w h hl ho
    simp only [List.all_cons, Bool.and_eq_true] at ho
    simp only [List.length_cons] at hl
    have hlt : k + i < cs.length := by omega
    simp only [storeCells, Sem.run_bind, add_mk, run_store_at h hlt ho.1, Result.andThen_ok]
    have hp := heap_lt h
    rw [ih (i + 1) k (cs.set (k + i) v) _ (by simp [setBlk, hp]) (by simp; omega) ho.2, setBlk_setBlk, splice_cons hlt, Nat.add_assoc]
theorem run_storeAt {P : Program} {w : World} {t : TypeId} {n : Nat} {p k : Nat} {T : TypeId} {cs : List Value} {v : Value} {vs : List Value} (hs : ∀ w, (sizeOf t).run P w = .ok n w) (hv : v.cells = vs.toArray) (hn : vs.length = n)
    (h : w.heap[p]? = some (.cells cs.toArray T (0, 0))) (hl : k + vs.length ≤ cs.length) (ho : vs.all oneCell = true) :
    (Instr.storeAt t (.pointer (some ⟨p, k, none⟩)) v).run P w = .ok () (setBlk w p (.cells (splice cs k vs).toArray T (0, 0))) := by
  have := run_storeCells_at (P := P) (p := p) (t := T) vs 0 k cs w h (by omega) ho
  simp only [Nat.add_zero] at this
  simp [Instr.storeAt, Instr.sureAddr, storeVar, hs, hv, hn, this]
theorem r_store1 {draw : Bool} {ops : Array Oper} {k : Nat} {t : TypeId} {x y : Operand} {A : Addr} {p j : Nat} {cs cs' : List Value} {T : TypeId} {v : Value} {own' : Own} (ho : ops[k]? = some ⟨d, .store t x y, ty, ps, af, g⟩) (hB : draw = true → aloneB ops k = true) (hd : d.all (fun d => Nat.blt d c.n) = true)
    (hw : wantedB ops env ⟨d, .store t x y, ty, ps, af, g⟩) (ht : TOne c.P t) (hx : Env.ev env x = some (.pointer (some A))) (hA : A = ⟨p, j, none⟩) (hy : Env.ev env y = some v) (hv : oneCell v = true)
    (hu : Upd p (.cells cs.toArray T (0, 0)) (.cells cs'.toArray T (0, 0)) own own') (hs : setV j [v] cs some = some cs')
    (h : R c draw ops Q (k + 1) (putEnv env d undef) F own') : R c draw ops Q k env F own := by
  refine r_one (Array.getElem?_eq_some_iff.1 ho).1 hB fun a w hh => ?_
  subst hA
  obtain ⟨h1, h2⟩ := setV_some hs
  simp only [Option.some.injEq] at h2
  unfold wpOpIn
  simp only [ho, wanted_of hh.env hw, if_true]
  refine ⟨fun _ _ => trivial, ?_⟩
  have hc : v.cells = [v].toArray := by cases v <;> simp [oneCell] at hv <;> rfl
  have hr := run_storeAt (P := c.P) (w := w) (t := t) (n := 1) (k := j) ht.size hc rfl (hh.sat.own _ hu.mem) h1 (by simp [hv])
  rw [h2] at hr
  rw [Oper.semAt_eq _ _ _ (fun _ h => by cases h)]
  simp only [execOp, hh.env.eval hx, hh.env.eval hy, Sem.run_bind, hr, Result.andThen_ok, Sem.run_pure, Oper.uponIn]
  exact h _ _ ⟨hh.env.put' hd undef, hh.sat.upd hu⟩
theorem r_storeN {draw : Bool} {ops : Array Oper} {k : Nat} {t : TypeId} {n : Nat} {x y : Operand} {A : Addr} {p j : Nat} {vs cs cs' : List Value} {T : TypeId} {own' : Own} (ho : ops[k]? = some ⟨d, .store t x y, ty, ps, af, g⟩) (hB : draw = true → aloneB ops k = true) (hd : d.all (fun d => Nat.blt d c.n) = true)
    (hw : wantedB ops env ⟨d, .store t x y, ty, ps, af, g⟩) (ht : TAgg c.P t n) (hx : Env.ev env x = some (.pointer (some A))) (hA : A = ⟨p, j, none⟩) (hy : Env.ev env y = some (.agg vs.toArray)) (hn : vs.length = n) (hv : vs.all oneCell = true)
    (hu : Upd p (.cells cs.toArray T (0, 0)) (.cells cs'.toArray T (0, 0)) own own') (hs : setV j vs cs some = some cs')
    (h : R c draw ops Q (k + 1) (putEnv env d undef) F own') : R c draw ops Q k env F own := by
  refine r_one (Array.getElem?_eq_some_iff.1 ho).1 hB fun a w hh => ?_
  subst hA
  obtain ⟨h1, h2⟩ := setV_some hs
  simp only [Option.some.injEq] at h2
  unfold wpOpIn
  simp only [ho, wanted_of hh.env hw, if_true]
  refine ⟨fun _ _ => trivial, ?_⟩
  have hr := run_storeAt (P := c.P) (w := w) (t := t) (n := n) (k := j) ht.size (v := .agg vs.toArray) rfl hn (hh.sat.own _ hu.mem) h1 hv
  rw [h2] at hr
  rw [Oper.semAt_eq _ _ _ (fun _ h => by cases h)]
  simp only [execOp, hh.env.eval hx, hh.env.eval hy, Sem.run_bind, hr, Result.andThen_ok, Sem.run_pure, Oper.uponIn]
  exact h _ _ ⟨hh.env.put' hd undef, hh.sat.upd hu⟩
/-! ### Calls -/
def Pure (P : Program) (f : FuncId) (args : List Value) (w : World) (v : Value) : Prop := Calls P f args.toArray w fun e w' => e = .returned v ∧ Keep [] w w'
theorem run_resolve_func {P : Program} {w : World} {ρ : Operand → Value} {x : Operand} {args : Array Operand} {ts : Array TypeId} {t : TypeId} {fn : Fn} {u v : Array Value} (h : ρ x = .func fn u v) :
    (resolve ρ { callee := .value x, args := args, argTypes := ts } t).run P w = .ok { target := .fn fn v, args := u ++ args.map ρ } w := by
  simp [resolve, h, Deferred.ofValue]
structure HasBody (P : Program) (f : FuncId) : Prop where
  call : ∀ args w, (callFunc f args).run P w = .ok (.enter f args) w
  ni : P.inits.idxOf? f = none
theorem evals {n : Nat} {df : List Deferred} {env : Env} {a : Act} (ha : EnvOk n df env a) : ∀ {l : List Operand} {vs : List Value}, l.mapM (Env.ev env) = some vs → l.map a.eval = vs := by
  intro l
  induction l with
  | nil => intro vs h; simp at h; simp [h]
  | cons p r ih =>
    intro vs h
    simp only [List.mapM_cons, Option.bind_eq_bind, Option.bind_eq_some_iff, Option.pure_def, Option.some.injEq] at h
    obtain ⟨u, hu, r', hr', rfl⟩ := h
    simp [ih hr', ha.eval hu]
theorem run_call {P : Program} {w : World} {n : Nat} {df : List Deferred} {env : Env} {a : Act} (ha : EnvOk n df env a) {x : Operand} {f : FuncId} {us caps : List Value} {args : List Operand} {ts : Array TypeId} {vs : List Value} (hb : HasBody P f)
    (hx : Env.ev env x = some (.func (.func f) us.toArray caps.toArray)) (hv : args.mapM (Env.ev env) = some vs) :
    (execOp a.eval ⟨d, .call { callee := .value x, args := args.toArray, argTypes := ts }, ty, ps, af, g⟩).run P w = .ok (.enter f (us ++ vs ++ caps).toArray) w := by
  have e : args.toArray.map a.eval = vs.toArray := by rw [List.map_toArray, evals ha hv]
  simp only [execOp, Sem.run_bind, run_resolve_func (ha.eval hx), Result.andThen_ok, invoke, hb.call]
  rw [e]
  simp
theorem det_call {x : Operand} {f : FuncId} {us caps : List Value} {args : List Operand} {ts : Array TypeId} {vs : List Value} {v : Value} (hb : HasBody c.P f) (hx : Env.ev env x = some (.func (.func f) us.toArray caps.toArray)) (hv : args.mapM (Env.ev env) = some vs)
    (h : ∀ w, Sat c F own w → Pure c.P f (us ++ vs ++ caps) w v) : Det c F own env ⟨d, .call { callee := .value x, args := args.toArray, argTypes := ts }, ty, ps, af, g⟩ v := by
  intro a ha w hw
  rw [run_call ha hb hx hv]
  exact ⟨rfl, hb.ni, h w hw⟩
theorem r_call {draw : Bool} {ops : Array Oper} {k : Nat} {x : Operand} {f : FuncId} {us caps : List Value} {args : List Operand} {ts : Array TypeId} {vs : List Value} (ho : ops[k]? = some ⟨d, .call { callee := .value x, args := args.toArray, argTypes := ts }, ty, ps, af, g⟩)
    (hB : draw = true → aloneB ops k = true) (hd : d.all (fun d => Nat.blt d c.n) = true) (hw : wantedB ops env ⟨d, .call { callee := .value x, args := args.toArray, argTypes := ts }, ty, ps, af, g⟩)
    (hb : HasBody c.P f) (hx : Env.ev env x = some (.func (.func f) us.toArray caps.toArray)) (hv : args.mapM (Env.ev env) = some vs)
    (h : ∀ w, Sat c F own w → Calls c.P f (us ++ vs ++ caps).toArray w fun e w' => ∃ v, e = .returned v ∧ ∃ F' own', Sat c F' own' w' ∧ R c draw ops Q (k + 1) (putEnv env d v) F' own') : R c draw ops Q k env F own := by
  refine r_one (Array.getElem?_eq_some_iff.1 ho).1 hB fun a w hh => ?_
  unfold wpOpIn
  simp only [ho, wanted_of hh.env hw, if_true]
  refine ⟨fun _ _ => trivial, ?_⟩
  rw [Oper.semAt_eq _ _ _ (fun _ h => by cases h), run_call hh.env hb hx hv]
  simp only [Oper.uponIn]
  refine ⟨FR_dep, calls_FR ((h w hh.sat).mono fun e w' he => ?_)⟩
  obtain ⟨v, rfl, F', own', hs, hR⟩ := he
  exact hR _ _ ⟨hh.env.put' hd v, hs⟩
/-! ### A function's beginning and end -/
def mkEnv : Nat → List Value → List (Nat × Value)
  | _, [] => []
  | n, v :: r => (n, v) :: mkEnv (n + 1) r
theorem mkEnv_get : ∀ (l : List Value) (n t : Nat) (v : Value), Env.get (mkEnv n l) t = some v → n ≤ t ∧ l[t - n]? = some v := by
  intro l
  induction l with
  | nil => intro n t v h; cases h
  | cons u r ih =>
    intro n t v h
    simp only [mkEnv, Env.get] at h
    cases hb : Nat.beq n t with
    | true =>
      have : n = t := Nat.eq_of_beq_eq_true hb
      subst this
      simp only [hb, cond_true, Option.some.injEq] at h
      subst h
      simp
    | false =>
      have hne : n ≠ t := fun e => by rw [e] at hb; simp at hb
      simp only [hb, cond_false] at h
      obtain ⟨h1, h2⟩ := ih (n + 1) t v h
      refine ⟨by omega, ?_⟩
      rw [show t - n = (t - (n + 1)) + 1 by omega, List.getElem?_cons_succ]
      exact h2
abbrev bodyQ (P : Program) (fn : Func) (E : Ending → World → Prop) : Exit → Act → World → Prop := bodyPostM (FR none) 0 P fn E
theorem fn_enter {P : Program} {f : FuncId} {fn : Func} {code : Code} {args : List Value} {n : Nat} {w : World} {S : List Nat} {F : Know} {own : Own} {E : Ending → World → Prop} (hf : P.funcs[f]? = some fn) (hb : fn.body = some code) (hn : fn.ntmps = n) (hlen : args.length ≤ n)
    (hF : ∀ a v, F a = some v → w.cell? a = some v) (haway : ∀ a v, F a = some v → a.block ∉ own.map (·.1)) (hnd : (own.map (·.1)).Nodup) (hS : ∀ x ∈ own, x.1 ∈ S) (hown : ∀ x ∈ own, w.heap[x.1]? = some x.2)
    (h : T ⟨P, n, w, S, none, []⟩ (mkEnv 0 args) F own code (bodyQ P fn E)) : Calls P f args.toArray w E := by
  refine calls_of_FR (n := 0) (callsIn_of_wp_marks hf hb trivial (h _ w ⟨⟨?_, rfl, ?_⟩, ⟨Keep.refl _ _, hF, haway, hnd, fun x hx => .inr (hS x hx), hown⟩⟩))
  · simp [hn]; omega
  · intro t v ht
    obtain ⟨_, h2⟩ := mkEnv_get args 0 t v ht
    simp only [Nat.sub_zero] at h2
    have hlt : t < args.length := by
      rcases Nat.lt_or_ge t args.length with h' | h'
      · exact h'
      · simp [List.getElem?_eq_none h'] at h2
    rw [List.getElem?_eq_getElem hlt] at h2
    injection h2 with h2
    have h3 : (args.toArray ++ Array.replicate (fn.ntmps - args.toArray.size) undef)[t]? = some v := by
      rw [Array.getElem?_append_left (by simpa using hlt)]
      simp [hlt, h2]
    rw [Array.getD_eq_getD_getElem?, h3]; rfl
def resVal (env : List (Nat × Value)) : ResultVar → Option Value
  | .tmp t => Env.get env t
  | .cell _ _ => none
theorem leave_none {fn : Func} {v : Value} {E : Ending → World → Prop} {a : Act} {w : World} (hd : a.defers = []) (hr : (results fn a.tmps).run c.P w = .ok v w) (h : E (.returned v) w) : bodyQ c.P fn E .ret a w := by
  show LeavesInM (FR none) 0 c.P fn a.tmps E a.defers .returning w
  rw [hd]
  exact ⟨v, hr, h⟩
theorem ret_tmp {fn : Func} {t : Tmp} {v : Value} {E : Ending → World → Prop} (hQ : Q .ret = bodyQ c.P fn E .ret) (hr : fn.results = #[.tmp t]) (hv : Env.get env t = some v) (h : ∀ w, Sat c F own w → E (.returned v) w) (hdf : c.df = [] := by rfl) : TK c env F own (Q .ret) := by
  intro a w hh
  rw [hQ]
  refine leave_none (hh.env.defers.trans hdf) (v := v) ?_ (h w hh.sat)
  rw [results_tmp hr, hh.env.get t v hv]
theorem ret_tmp2 {fn : Func} {t u : Tmp} {v1 v2 : Value} {E : Ending → World → Prop} (hQ : Q .ret = bodyQ c.P fn E .ret) (hr : fn.results = #[.tmp t, .tmp u]) (hv : Env.get env t = some v1) (hu : Env.get env u = some v2) (h : ∀ w, Sat c F own w → E (.returned (.tuple [v1, v2].toArray)) w) (hdf : c.df = [] := by rfl) : TK c env F own (Q .ret) := by
  intro a w hh
  rw [hQ]
  refine leave_none (hh.env.defers.trans hdf) (v := .tuple [v1, v2].toArray) ?_ (h w hh.sat)
  rw [results_tmp2 hr, hh.env.get t v1 hv, hh.env.get u v2 hu]
end
end Go.Eng

/-
  The engine, part 5: the same rules in the shape in which they are applied.
-/
namespace Go.Eng
open Go
section
variable {c : Cx} {env : Env} {F : Know} {own : Own} {Q : Exit → Act → World → Prop}
variable {d : Option Tmp} {ty : TypeId} {ps : String} {af : Array Edge} {g : Option (Nat × Bool)}
def nthO : List Oper → Nat → Option Oper
  | [], _ => none
  | v :: _, 0 => some v
  | _ :: r, n + 1 => nthO r n
theorem nthO_eq (l : List Oper) (n : Nat) : nthO l n = l.toArray[n]? := by
  induction l generalizing n with
  | nil => simp [nthO]
  | cons v r ih => cases n <;> simp [nthO, ih]
/-! ### The exits' wrappers -/
theorem k_then {K : Act → World → Prop} (h : TK c env F own K) : TK c env F own (Exit.then K Q .normal) := h
theorem k_thenE {K : Act → World → Prop} {i : Nat} (h : TK c env F own (Q (.exit i))) : TK c env F own (Exit.then K Q (.exit i)) := h
theorem k_thenR {K : Act → World → Prop} (h : TK c env F own (Q .ret)) : TK c env F own (Exit.then K Q .ret) := h
theorem k_thenG {K : Act → World → Prop} {i : Nat} (h : TK c env F own (Q (.goto i))) : TK c env F own (Exit.then K Q (.goto i)) := h
theorem k_blk {i : Nat} (h : TK c env F own (Q .normal)) : TK c env F own (Exit.inBlock i Q .normal) := h
theorem k_blkR {i : Nat} (h : TK c env F own (Q .ret)) : TK c env F own (Exit.inBlock i Q .ret) := h
theorem k_blkE {i : Nat} (h : TK c env F own (Q .normal)) : TK c env F own (Exit.inBlock i Q (.exit i)) := by
  intro a w hh
  simp only [Exit.inBlock, if_true]
  exact h a w hh
theorem k_blkN {i j : Nat} (hij : j ≠ i) (h : TK c env F own (Q (.exit j))) : TK c env F own (Exit.inBlock i Q (.exit j)) := by
  intro a w hh
  simp only [Exit.inBlock, hij, if_false]
  exact h a w hh
theorem k_jmpR {i : Nat} {J : Act → World → Prop} (h : TK c env F own (Q .ret)) : TK c env F own (Exit.jump i J Q .ret) := h
theorem k_jmpG {i : Nat} {J : Act → World → Prop} (h : TK c env F own J) : TK c env F own (Exit.jump i J Q (.goto i)) := fun a w hh => ⟨rfl, h a w hh⟩
theorem k_nogR (h : TK c env F own (Q .ret)) : TK c env F own (Exit.noGoto Q .ret) := h
theorem t_condP {o : Operand} {x y : Code} {b : Bool} {p : Prop} (hp : b = true ↔ p) (ho : Env.ev env o = some (.bool b)) (ht : p → T c env F own x Q) (hf : ¬ p → T c env F own y Q) : T c env F own (.cond o x y) Q :=
  t_cond ho (fun h => ht (hp.1 h)) (fun h => hf (fun h' => by rw [hp.2 h'] at h; cases h))
theorem not_iff_false {b : Bool} : (!b) = true ↔ b = false := by cases b <;> simp
theorem t_label {l : Nat} (h : TK c env F own (Q .normal)) : T c env F own (.label l) Q := fun a w hd => wpIn_label (h a w hd)
theorem t_goto {l : Nat} (h : TK c env F own (Q (.goto l))) : T c env F own (.goto l) Q := fun a w hd => wpIn_goto (h a w hd)
theorem stepR_scope {P : Program} {b : Frame} {a : Act} {k : List Go.Item} {cs : List Frame} {w : World} {x : Code} : step P (lone (b.atR a (.code (.scope x) :: k)) cs w) = .next (lone (b.atR a (.code x :: .inScope x :: k)) cs w) :=
  step_lone_go (by simp [stepG, stepG.exec, Frame.atR])
theorem stepR_inScope {P : Program} {b : Frame} {a : Act} {k : List Go.Item} {cs : List Frame} {w : World} {x : Code} : step P (lone (b.atR a (.inScope x :: k)) cs w) = .next (lone (b.atR a k) cs w) :=
  step_lone_go (by simp [stepG, stepG.exec, Frame.atR])
theorem t_scope0 {x : Code} (h : T c env F own x (Exit.noGoto Q)) : T c env F own (.scope x) Q := by
  intro a w hd b k cs hro hb hr
  obtain ⟨e, a₁, w₁, hq, harr⟩ := h a w hd b (.inScope x :: k) cs hro hb hr
  have f0 : (lone (b.atR a (.code (.scope x) :: k)) cs w).fenced c.P (FR c.ro) := fenced_calm hb hr rfl
  cases e with
  | normal => exact ⟨.normal, a₁, w₁, hq, .head f0 stepR_scope (StepsIn.trans harr (.one (fenced_calm hb hr rfl) stepR_inScope))⟩
  | exit id =>
    have hx : exitTo id (.inScope x :: k) = exitTo id k := by simp [exitTo]
    exact ⟨.exit id, a₁, w₁, hq, fun k' hk => .head f0 stepR_scope (harr.1 k' (by rw [hx]; exact hk)), fun hr' hk => let ⟨k₁, h1, h2⟩ := harr.2 hr' (by rw [hx]; exact hk); ⟨k₁, h1, .head f0 stepR_scope h2⟩⟩
  | goto l => exact hq.elim
  | ret => exact ⟨_, a₁, w₁, hq, .of_steps (.one f0 stepR_scope) harr⟩
  | panic ch => exact ⟨_, a₁, w₁, hq, .of_steps (.one f0 stepR_scope) harr⟩
  | outgrown => exact ⟨_, a₁, w₁, hq, .of_steps (.one f0 stepR_scope) harr⟩
theorem Hd.drop {env env' : Env} {F : Know} {own own' : Own} {a : Act} {w : World} (h : Hd c env F own a w) (he : Env.sub env' env) (ho : own'.Sublist own) : Hd c env' F own' a w := by
  refine ⟨h.env.forget (Env.sub_get he), h.sat.keep, h.sat.know, fun a v ha hm => ?_, ?_, fun x hx => h.sat.ids x (ho.subset hx), fun x hx => h.sat.own x (ho.subset hx)⟩
  · exact h.sat.away a v ha ((ho.map _).subset hm)
  · exact (ho.map _).nodup h.sat.nodup
theorem t_while {x : Code} {σ : Type} (E : σ → Env) (O : σ → Own) (μ : σ → Nat) (I : σ → Prop) (s0 : σ) (h0 : I s0) (he : Env.sub (E s0) env) (ho : (O s0).Sublist own)
    (round : ∀ s, I s → T c (E s) F (O s) x (Exit.then (fun a w => ∃ s', I s' ∧ μ s' < μ s ∧ Hd c (E s') F (O s') a w) Q)) : T c env F own (.loop x) Q :=
  t_loop E (fun _ => F) O μ I s0 h0 (fun _ _ hd => hd.drop he ho) round
theorem loop_back {σ : Type} {E : σ → Env} {O : σ → Own} {μ : σ → Nat} {I : σ → Prop} {s : σ} (s' : σ) (h0 : I s') (hm : μ s' < μ s) (he : Env.sub (E s') env) (ho : (O s').Sublist own) :
    TK c env F own (fun a w => ∃ s', I s' ∧ μ s' < μ s ∧ Hd c (E s') F (O s') a w) := fun _ _ hd => ⟨s', h0, hm, hd.drop he ho⟩
theorem t_scope1 {x rest : Code} {l : Nat} {σ : Type} (E : σ → Env) (O : σ → Own) (μ : σ → Nat) (I : σ → Prop) (hf : findLabel x l = some rest)
    (pass : ∀ s, I s → T c (E s) F (O s) rest (Exit.jump l (fun a w => ∃ s', I s' ∧ μ s' < μ s ∧ Hd c (E s') F (O s') a w) Q))
    (first : (∀ s, I s → T c (E s) F (O s) rest (Exit.jump l (fun a w => ∃ s', I s' ∧ Hd c (E s') F (O s') a w) Q)) → T c env F own x (Exit.jump l (fun a w => ∃ s', I s' ∧ Hd c (E s') F (O s') a w) Q)) :
    T c env F own (.scope x) Q := by
  have hp : ∀ s, I s → T c (E s) F (O s) rest (Exit.jump l (fun a w => ∃ s', I s' ∧ Hd c (E s') F (O s') a w) Q) := fun s hI a w hd =>
    wpIn_mono (pass s hI a w hd) fun e a w h => by
      cases e <;> simp only [Exit.jump] at h ⊢
      case goto => obtain ⟨h1, s', h2, _, h3⟩ := h; exact ⟨h1, s', h2, h3⟩
      all_goals exact h
  intro a w hd b k cs hro hb hr
  have f0 : (lone (b.atR a (.code (.scope x) :: k)) cs w).fenced c.P (FR c.ro) := fenced_calm hb hr rfl
  have hg : gotoIn l (.inScope x :: k) = some (.code rest :: .inScope x :: k) := by simp [gotoIn, hf]
  have hx : ∀ id, exitTo id (.inScope x :: k) = exitTo id k := fun id => by simp [exitTo]
  have key : ∀ n (s : σ) a w, μ s = n → I s → Hd c (E s) F (O s) a w → ∃ e a' w', Q e a' w' ∧ ArrivesIn (Machine.fenced c.P (FR c.ro)) c.P (lone (b.atR a (.code rest :: .inScope x :: k)) cs w) b k cs e a' w' := by
    intro n
    induction n using Nat.strongRecOn with
    | _ n ih =>
      intro s a w hn hJ hd
      obtain ⟨e, a₁, w₁, hq, harr⟩ := pass s hJ a w hd b (.inScope x :: k) cs hro hb hr
      cases e with
      | normal => exact ⟨.normal, a₁, w₁, hq, StepsIn.trans harr (.one (fenced_calm hb hr rfl) stepR_inScope)⟩
      | exit id => exact ⟨.exit id, a₁, w₁, hq, fun k' hk => harr.1 k' (by rw [hx]; exact hk), fun hr' hk => harr.2 hr' (by rw [hx]; exact hk)⟩
      | goto l' =>
        obtain ⟨rfl, s', hJ', hlt, hd'⟩ := hq
        obtain ⟨e₂, a₂, w₂, hq₂, harr₂⟩ := ih _ (by omega) s' a₁ w₁ rfl hJ' hd'
        exact ⟨e₂, a₂, w₂, hq₂, .of_steps (harr.1 _ hg) harr₂⟩
      | ret => exact ⟨_, a₁, w₁, hq, harr⟩
      | panic ch => exact ⟨_, a₁, w₁, hq, harr⟩
      | outgrown => exact ⟨_, a₁, w₁, hq, harr⟩
  obtain ⟨e, a₁, w₁, hq, harr⟩ := first hp a w hd b (.inScope x :: k) cs hro hb hr
  cases e with
  | normal => exact ⟨.normal, a₁, w₁, hq, .head f0 stepR_scope (StepsIn.trans harr (.one (fenced_calm hb hr rfl) stepR_inScope))⟩
  | exit id => exact ⟨.exit id, a₁, w₁, hq, fun k' hk => .head f0 stepR_scope (harr.1 k' (by rw [hx]; exact hk)), fun hr' hk => let ⟨k₁, h1, h2⟩ := harr.2 hr' (by rw [hx]; exact hk); ⟨k₁, h1, .head f0 stepR_scope h2⟩⟩
  | goto l' =>
    obtain ⟨rfl, s', hJ', hd'⟩ := hq
    obtain ⟨e₂, a₂, w₂, hq₂, harr₂⟩ := key _ s' a₁ w₁ rfl hJ' hd'
    exact ⟨e₂, a₂, w₂, hq₂, .of_steps (.head f0 stepR_scope (harr.1 _ hg)) harr₂⟩
  | ret => exact ⟨_, a₁, w₁, hq, .of_steps (.one f0 stepR_scope) harr⟩
  | panic ch => exact ⟨_, a₁, w₁, hq, .of_steps (.one f0 stepR_scope) harr⟩
  | outgrown => exact ⟨_, a₁, w₁, hq, .of_steps (.one f0 stepR_scope) harr⟩
theorem t_scope {x rest : Code} {l : Nat} {σ : Type} (E : σ → Env) (O : σ → Own) (μ : σ → Nat) (I : σ → Prop) (hf : findLabel x l = some (.seq .skip rest))
    (pass : ∀ s, I s → T c (E s) F (O s) rest (Exit.jump l (fun a w => ∃ s', I s' ∧ μ s' < μ s ∧ Hd c (E s') F (O s') a w) Q))
    (first : (∀ s, I s → T c (E s) F (O s) rest (Exit.jump l (fun a w => ∃ s', I s' ∧ Hd c (E s') F (O s') a w) Q)) → T c env F own x (Exit.jump l (fun a w => ∃ s', I s' ∧ Hd c (E s') F (O s') a w) Q)) :
    T c env F own (.scope x) Q :=
  t_scope1 E O μ I hf (fun s hI => t_seq (t_skip (pass s hI))) fun _ => first fun s hI a w hd =>
    wpIn_mono (pass s hI a w hd) fun e a w h => by
      cases e <;> simp only [Exit.jump] at h ⊢
      case goto => obtain ⟨h1, s', h2, _, h3⟩ := h; exact ⟨h1, s', h2, h3⟩
      all_goals exact h
theorem at_label {x rest : Code} {l : Nat} {σ : Type} {E : σ → Env} {O : σ → Own} {I : σ → Prop} {K : Exit → Act → World → Prop} (hp : ∀ s, I s → T c (E s) F (O s) rest K) (s : σ) (h0 : I s) (he : Env.sub (E s) env) (ho : (O s).Sublist own) (hx : x = .seq (.label l) rest := by rfl) : T c env F own x K := by
  subst hx
  exact t_seq (t_label fun a w hd => hp s h0 a w (hd.drop he ho))
/-! ### Operations of a region, by their number -/
variable {l : List Oper} {k : Nat} {draw : Bool}
theorem b0 {id : Nat} (h : R c false l.toArray Q 0 env F own) : T c env F own (.region id l.toArray false) Q := r_start h
theorem bD {id : Nat} (hm : c.P.follows .mixedOrders = true) (h : R c true l.toArray Q 0 env F own) : T c env F own (.region id l.toArray true) Q := r_startD hm h
theorem be (hk : l.length = k) (h : TK c env F own (Q .normal)) : R c draw l.toArray Q k env F own := r_end (by simp [hk]) h
theorem o1 {o : Oper} {v : Value} {t : Tmp} (ho : nthO l k = some o) (hD : Det c F own env o v) (ht : o.dst = some t) (hd : Nat.blt t c.n = true) (hw : wantedB l.toArray env o) (h : R c false l.toArray Q (k + 1) ((t, v) :: env) F own) : R c false l.toArray Q k env F own :=
  r_det (by rw [← nthO_eq]; exact ho) (fun h => by cases h) (by rw [ht]; exact hd) hw hD (by rw [ht]; exact h)
theorem o2 {o : Oper} {b : Bool} {t : Tmp} (ho : nthO l k = some o) (hD : Det c F own env o (.bool b)) (ht : o.dst = some t) (hd : Nat.blt t c.n = true) (hw : wantedB l.toArray env o)
    (h1 : b = true → R c false l.toArray Q (k + 1) ((t, .bool true) :: env) F own) (h2 : b = false → R c false l.toArray Q (k + 1) ((t, .bool false) :: env) F own) : R c false l.toArray Q k env F own := by
  cases b
  · exact o1 ho hD ht hd hw (h2 rfl)
  · exact o1 ho hD ht hd hw (h1 rfl)
theorem o2P {o : Oper} {b : Bool} {p : Prop} {t : Tmp} (hp : b = true ↔ p) (ho : nthO l k = some o) (hD : Det c F own env o (.bool b)) (ht : o.dst = some t) (hd : Nat.blt t c.n = true) (hw : wantedB l.toArray env o)
    (h1 : p → R c false l.toArray Q (k + 1) ((t, .bool true) :: env) F own) (h2 : ¬ p → R c false l.toArray Q (k + 1) ((t, .bool false) :: env) F own) : R c false l.toArray Q k env F own :=
  o2 ho hD ht hd hw (fun h => h1 (hp.1 h)) (fun h => h2 (fun h' => by rw [hp.2 h'] at h; cases h))
theorem on {o : Oper} {t : Tmp} (ho : nthO l k = some o) (ht : o.dst = some t) (hd : Nat.blt t c.n = true) (hw : unwantedB l.toArray env o) (h : R c false l.toArray Q (k + 1) ((t, undef) :: env) F own) : R c false l.toArray Q k env F own :=
  r_no (by rw [← nthO_eq]; exact ho) (fun h => by cases h) (by rw [ht]; exact hd) hw (by rw [ht]; exact h)
theorem om {o : Oper} {V : Nat → Value → Obj → Prop} {t : Tmp} (ho : nthO l k = some o) (hN : New c F own env o V) (ht : o.dst = some t) (hd : Nat.blt t c.n = true) (hw : wantedB l.toArray env o)
    (h : ∀ p v ob, V p v ob → R c false l.toArray Q (k + 1) ((t, v) :: env) F ((p, ob) :: own)) : R c false l.toArray Q k env F own :=
  r_new (by rw [← nthO_eq]; exact ho) (fun h => by cases h) (by rw [ht]; exact hd) hw hN (by rw [ht]; exact h)
theorem om1 {o : Oper} {v : Nat → Value} {ob : Nat → Obj} {t : Tmp} (ho : nthO l k = some o) (hN : New c F own env o (fun p u b => u = v p ∧ b = ob p)) (ht : o.dst = some t) (hd : Nat.blt t c.n = true) (hw : wantedB l.toArray env o)
    (h : ∀ p, R c false l.toArray Q (k + 1) ((t, v p) :: env) F ((p, ob p) :: own)) : R c false l.toArray Q k env F own :=
  om ho hN ht hd hw fun p u b hv => by obtain ⟨rfl, rfl⟩ := hv; exact h p
theorem s1 {kd : Nat → Kind} {Z : Env → List Item → Prop} {N : List Item} {i : Nat} {r : List Nat} {o : Oper} {v : Value} {t : Tmp} (ho : nthO l i = some o) (hD : Det c F own env o v) (ht : o.dst = some t) (hd : Nat.blt t c.n = true)
    (hw : wantedB l.toArray env o) (hn : kd i = .det) (h : SG c l.toArray F own kd Z r ((t, v) :: env) N) : SG c l.toArray F own kd Z (i :: r) env N :=
  sg_det (by rw [← nthO_eq]; exact ho) (by rw [ht]; exact hd) hw hn hD (by rw [ht]; exact h)
theorem s2 {kd : Nat → Kind} {Z : Env → List Item → Prop} {N : List Item} {i : Nat} {r : List Nat} {o : Oper} {b : Bool} {t : Tmp} (ho : nthO l i = some o) (hD : Det c F own env o (.bool b)) (ht : o.dst = some t) (hd : Nat.blt t c.n = true)
    (hw : wantedB l.toArray env o) (hn : kd i = .det) (h1 : b = true → SG c l.toArray F own kd Z r ((t, .bool true) :: env) N) (h2 : b = false → SG c l.toArray F own kd Z r ((t, .bool false) :: env) N) : SG c l.toArray F own kd Z (i :: r) env N := by
  cases b
  · exact s1 ho hD ht hd hw hn (h2 rfl)
  · exact s1 ho hD ht hd hw hn (h1 rfl)
theorem s2P {kd : Nat → Kind} {Z : Env → List Item → Prop} {N : List Item} {i : Nat} {r : List Nat} {o : Oper} {b : Bool} {p : Prop} {t : Tmp} (hp : b = true ↔ p) (ho : nthO l i = some o) (hD : Det c F own env o (.bool b)) (ht : o.dst = some t) (hd : Nat.blt t c.n = true)
    (hw : wantedB l.toArray env o) (hn : kd i = .det) (h1 : p → SG c l.toArray F own kd Z r ((t, .bool true) :: env) N) (h2 : ¬ p → SG c l.toArray F own kd Z r ((t, .bool false) :: env) N) : SG c l.toArray F own kd Z (i :: r) env N :=
  s2 ho hD ht hd hw hn (fun h => h1 (hp.1 h)) (fun h => h2 (fun h' => by rw [hp.2 h'] at h; cases h))
theorem sn {kd : Nat → Kind} {Z : Env → List Item → Prop} {N : List Item} {i : Nat} {r : List Nat} {o : Oper} {t : Tmp} (ho : nthO l i = some o) (ht : o.dst = some t) (hd : Nat.blt t c.n = true)
    (hw : unwantedB l.toArray env o) (h : SG c l.toArray F own kd Z r ((t, undef) :: env) N) : SG c l.toArray F own kd Z (i :: r) env N :=
  sg_no (by rw [← nthO_eq]; exact ho) (by rw [ht]; exact hd) hw (by rw [ht]; exact h)
theorem sm1 {kd : Nat → Kind} {Z : Env → List Item → Prop} {N : List Item} {i : Nat} {r : List Nat} {o : Oper} {v : Nat → Value} {ob : Nat → Obj} {t : Tmp} (ho : nthO l i = some o) (hN : New c F own env o (fun p u b => u = v p ∧ b = ob p)) (ht : o.dst = some t) (hd : Nat.blt t c.n = true)
    (hw : wantedB l.toArray env o) (hn : kd i = .new) (h : ∀ p, SG c l.toArray F own kd Z r ((t, v p) :: env) (.own (some t) p (ob p) :: N)) : SG c l.toArray F own kd Z (i :: r) env N :=
  sg_new (by rw [← nthO_eq]; exact ho) (by rw [ht]; exact hd) hw hn hN fun p u b hv => by obtain ⟨rfl, rfl⟩ := hv; rw [ht]; exact h p
theorem s1N {kd : Nat → Kind} {Z : Env → List Item → Prop} {N : List Item} (ns : List Item) {i : Nat} {r : List Nat} {o : Oper} {v : Value} {t : Tmp} (hns : Needs l.toArray o N ns) (ho : nthO l i = some o) (hD : ∀ F', Incl F F' → (∀ it ∈ ns, it.holds F') → Det c F' own env o v) (ht : o.dst = some t) (hd : Nat.blt t c.n = true)
    (hw : wantedB l.toArray env o) (hn : kd i = .det) (h : SG c l.toArray F own kd Z r ((t, v) :: env) N) : SG c l.toArray F own kd Z (i :: r) env N :=
  sg_detN ns (by rw [← nthO_eq]; exact ho) (by rw [ht]; exact hd) hw hn hns hD (by rw [ht]; exact h)
theorem sM {kd : Nat → Kind} {Z : Env → List Item → Prop} {N : List Item} (ns : List Item) {i : Nat} {r : List Nat} {o : Oper} {Rl : Value → Know → Prop} {t : Tmp} (hns : Needs l.toArray o N ns) (ho : nthO l i = some o) (hM : ∀ F', Incl F F' → (∀ it ∈ ns, it.holds F') → Mem c F F' own env o Rl) (ht : o.dst = some t) (hd : Nat.blt t c.n = true)
    (hw : wantedB l.toArray env o) (hn : kd i = .mem (Told F Rl)) (h : ∀ v, (∃ F', Rl v F') → SG c l.toArray F own kd Z r ((t, v) :: env) (.fact (some t) (fun F' => Rl v F') :: N)) : SG c l.toArray F own kd Z (i :: r) env N :=
  sg_memN ns (by rw [← nthO_eq]; exact ho) (by rw [ht]; exact hd) hw hn hns hM fun v hv => by rw [ht]; exact h v hv
theorem d1 {o : Oper} {v : Value} {t : Tmp} (ho : nthO l k = some o) (hB : aloneB l.toArray k = true) (hD : Det c F own env o v) (ht : o.dst = some t) (hd : Nat.blt t c.n = true) (hw : wantedB l.toArray env o) (h : R c true l.toArray Q (k + 1) ((t, v) :: env) F own) : R c true l.toArray Q k env F own :=
  r_det (by rw [← nthO_eq]; exact ho) (fun _ => hB) (by rw [ht]; exact hd) hw hD (by rw [ht]; exact h)
/-! ### Stores -/
theorem st1 {t : TypeId} {x y : Operand} {A : Addr} {p j : Nat} {cs cs' : List Value} {T : TypeId} {v : Value} {own' : Own} (hB : draw = true → aloneB l.toArray k = true) (ho : nthO l k = some ⟨none, .store t x y, ty, ps, af, g⟩) (ht : TOne c.P t) (hx : Env.ev env x = some (.pointer (some A))) (hA : A = ⟨p, j, none⟩) (hy : Env.ev env y = some v)
    (hu : Upd p (.cells cs.toArray T (0, 0)) (.cells cs'.toArray T (0, 0)) own own') (hs : setV j [v] cs some = some cs')
    (hw : wantedB l.toArray env ⟨none, .store t x y, ty, ps, af, g⟩) (hv : oneCell v = true) (h : R c draw l.toArray Q (k + 1) env F own') : R c draw l.toArray Q k env F own :=
  r_store1 (by rw [← nthO_eq]; exact ho) hB rfl hw ht hx hA hy hv hu hs h
theorem stN {t : TypeId} {n : Nat} {x y : Operand} {A : Addr} {p j : Nat} {vs cs cs' : List Value} {T : TypeId} {own' : Own} (hB : draw = true → aloneB l.toArray k = true) (ho : nthO l k = some ⟨none, .store t x y, ty, ps, af, g⟩) (ht : TAgg c.P t n) (hx : Env.ev env x = some (.pointer (some A))) (hA : A = ⟨p, j, none⟩) (hy : Env.ev env y = some (.agg vs.toArray))
    (hu : Upd p (.cells cs.toArray T (0, 0)) (.cells cs'.toArray T (0, 0)) own own') (hs : setV j vs cs some = some cs')
    (hw : wantedB l.toArray env ⟨none, .store t x y, ty, ps, af, g⟩) (hn : vs.length = n) (hv : vs.all oneCell = true) (h : R c draw l.toArray Q (k + 1) env F own') : R c draw l.toArray Q k env F own :=
  r_storeN (by rw [← nthO_eq]; exact ho) hB rfl hw ht hx hA hy hn hv hu hs h
theorem t_whileM {x : Code} {σ : Type} (M : σ → Env) (O : σ → Own) (μ : σ → Nat) (I : σ → Prop) (s0 : σ) {env0 : Env} (h0 : I s0) (hm : Env.sub (M s0) env) (h1 : Env.sub env0 env) (ho : (O s0).Sublist own)
    (round : ∀ s, I s → T c (M s ++ env0) F (O s) x (Exit.then (fun a w => ∃ s', I s' ∧ μ s' < μ s ∧ Hd c (M s' ++ env0) F (O s') a w) Q)) : T c env F own (.loop x) Q := by
  refine t_while (fun s => M s ++ env0) O μ I s0 h0 ?_ ho round
  generalize M s0 = m at hm
  induction m with
  | nil => exact h1
  | cons y r ih => obtain ⟨t, v⟩ := y; exact ⟨hm.1, ih hm.2⟩
inductive ResOk (c : Cx) (env : Env) (own : Own) : ResultVar → Value → Prop
  | tmp {t : Tmp} {v : Value} : Env.get env t = some v → ResOk c env own (.tmp t) v
  | cell1 {a : Tmp} {t : TypeId} {A : Addr} {p k : Nat} {cs : List Value} {T : TypeId} {fr : Nat × Nat} {v : Value} : TOne c.P t → Env.get env a = some (.pointer (some A)) → A = ⟨p, k, none⟩ → (p, Obj.cells cs.toArray T fr) ∈ own → nthV cs k = some v → ResOk c env own (.cell a t) v
  | cellN {a : Tmp} {t : TypeId} {n : Nat} {A : Addr} {p k : Nat} {cs r : List Value} {T : TypeId} {fr : Nat × Nat} : TAgg c.P t n → Env.get env a = some (.pointer (some A)) → A = ⟨p, k, none⟩ → (p, Obj.cells cs.toArray T fr) ∈ own → cutV k n cs = some r → ResOk c env own (.cell a t) (.agg r.toArray)
def ResAll (c : Cx) (env : Env) (own : Own) : List ResultVar → List Value → Prop
  | [], [] => True
  | r :: rs, v :: vs => ResOk c env own r v ∧ ResAll c env own rs vs
  | _, _ => False
theorem ResOk.run {c : Cx} {env : Env} {F : Know} {own : Own} {r : ResultVar} {v : Value} {a : Act} {w : World} (h : ResOk c env own r v) (hh : Hd c env F own a w) :
    (match r with | .tmp t => (pure (a.tmps.getD t undef) : Sem Value) | .cell x t => do loadVar t (← asAddr (a.tmps.getD x undef))).run c.P w = .ok v w := by
  cases h with
  | tmp h => simp only [hh.env.get _ _ h, Sem.run_pure]
  | cell1 ht hx hA hm hv =>
    subst hA
    rw [nthV_eq] at hv
    have h1 := run_loadAt1 ht (by rw [cell_of (hh.sat.own _ hm)]; exact hv)
    simp only [Instr.loadAt, Instr.sureAddr, Sem.run_bind, Sem.run_pure, Result.andThen_ok] at h1
    simp only [hh.env.get _ _ hx, asAddr, Sem.run_bind, Sem.run_pure, Result.andThen_ok, h1]
  | @cellN x t n A p k cs r T fr ht hx hA hm hv =>
    subst hA
    have h1 : ∀ j, j < n → w.cell? ((⟨p, k, none⟩ : Addr).add j) = r[j]? := fun j hj => by
      rw [add_mk, cell_of (hh.sat.own _ hm)]
      exact (cutV_get hv hj).1
    have hl : r.length = n := by
      rw [cutV_eq hv]
      rcases cutV_some hv with h | h
      · simp; omega
      · subst h; simp
    have h1 := run_loadAtN ht hl h1
    simp only [Instr.loadAt, Instr.sureAddr, Sem.run_bind, Sem.run_pure, Result.andThen_ok] at h1
    simp only [hh.env.get _ _ hx, asAddr, Sem.run_bind, Sem.run_pure, Result.andThen_ok, h1]
def pack : List Value → Value
  | [v] => v
  | vs => .tuple vs.toArray
def resRun (tmps : Array Value) : ResultVar → Sem Value
  | .tmp t => pure (tmps.getD t undef)
  | .cell a t => do loadVar t (← asAddr (tmps.getD a undef))
theorem results_eq (fn : Func) (tmps : Array Value) : results fn tmps = (do let vs ← fn.results.mapM (resRun tmps); pure (if h : vs.size = 1 then vs[0] else .tuple vs)) := by
  unfold results
  congr 1
theorem run_results {fn : Func} {rs : List ResultVar} {vs : List Value} {a : Act} {w : World} (hr : fn.results = rs.toArray) (h : ResAll c env own rs vs) (hh : Hd c env F own a w) : (results fn a.tmps).run c.P w = .ok (pack vs) w := by
  have key : ∀ (rs : List ResultVar) (vs : List Value), ResAll c env own rs vs → (rs.mapM (resRun a.tmps)).run c.P w = .ok vs w := by
    intro rs
    induction rs with
    | nil => intro vs h; cases vs with | nil => simp | cons => exact h.elim
    | cons r rs ih =>
      intro vs h
      cases vs with
      | nil => exact h.elim
      | cons v vs =>
        obtain ⟨h1, h2⟩ := h
        have e : (resRun a.tmps r).run c.P w = .ok v w := by
          have := h1.run hh
          cases r <;> exact this
        simp only [List.mapM_cons, Sem.run_bind, e, ih vs h2, Result.andThen_ok, Sem.run_pure]
  have hk := key rs vs h
  rw [results_eq, hr]
  have e1 : (rs.toArray.mapM (resRun a.tmps)).run c.P w = .ok vs.toArray w := by
    rw [List.mapM_toArray]
    simp only [Sem.run_map, hk, Result.andThen_ok]
  simp only [Sem.run_bind, e1, Result.andThen_ok, Sem.run_pure]
  cases vs with
  | nil => rfl
  | cons v vs => cases vs with
    | nil => rfl
    | cons u vs => simp [pack]
theorem ret_any {fn : Func} {rs : List ResultVar} {vs : List Value} {v : Value} {E : Ending → World → Prop} (hQ : Q .ret = bodyQ c.P fn E .ret) (hr : fn.results = rs.toArray) (hv : ResAll c env own rs vs) (hp : pack vs = v) (h : ∀ w, Sat c F own w → E (.returned v) w) (hdf : c.df = [] := by rfl) : TK c env F own (Q .ret) := by
  intro a w hh
  rw [hQ]
  subst hp
  exact leave_none (hh.env.defers.trans hdf) (run_results hr hv hh) (h w hh.sat)
theorem fn_pure {P : Program} {f : FuncId} {fn : Func} {code : Code} {args : List Value} {n : Nat} {w : World} {F : Know} {v : Value} (hf : P.funcs[f]? = some fn) (hb : fn.body = some code) (hn : fn.ntmps = n) (hlen : Nat.ble args.length n = true)
    (hF : ∀ a v, F a = some v → w.cell? a = some v) (h : T ⟨P, n, w, [], none, []⟩ (mkEnv 0 args) F [] code (bodyQ P fn (fun e w' => e = .returned v ∧ Keep [] w w'))) : Pure P f args w v :=
  fn_enter hf hb hn (Nat.le_of_ble_eq_true hlen) hF (fun _ _ _ h => by cases h) (by simp) (fun _ h => by cases h) (fun _ h => by cases h) h
end
end Go.Eng

/-
  The engine, part 7: calls that write what they were lent; calls that hand back memory of their own.
-/
namespace Go.Eng
open Go
abbrev idsO (own : Own) : List Nat := own.map (·.1)
def CallsOn (P : Program) (f : FuncId) (args : List Value) (w : World) (cp : Own) (R : Value → Own → Prop) : Prop :=
  Calls P f args.toArray w fun e w' => ∃ v cp', e = .returned v ∧ idsO cp' = idsO cp ∧ (∀ x ∈ cp', w'.heap[x.1]? = some x.2) ∧ Keep (idsO cp) w w' ∧ R v cp'
def CallsF (P : Program) (f : FuncId) (args : List Value) (w : World) (F : Know) (R : Value → Know → Prop) : Prop :=
  Calls P f args.toArray w fun e w' => ∃ v, e = .returned v ∧ Keep [] w w' ∧
    ∀ F' : Know, (∀ a u, F a = some u → F' a = some u) → (∀ a u, w.heap.size ≤ a.block → w'.cell? a = some u → F' a = some u) → R v F'
theorem Pure.on {P : Program} {F : Know} {f : FuncId} {args : List Value} {w : World} {v : Value} (h : Pure P f args w v) : CallsF P f args w F (fun u _ => u = v) :=
  Calls.mono h fun _ _ ⟨h1, h2⟩ => ⟨v, h1, h2, fun _ _ _ => rfl⟩
section
variable {c : Cx} {env : Env} {F : Know} {own : Own} {Q : Exit → Act → World → Prop}
variable {d : Option Tmp} {ty : TypeId} {ps : String} {af : Array Edge} {g : Option (Nat × Bool)} {l : List Oper} {k : Nat} {draw : Bool}
theorem Sat.lent {cp cp' rest : Own} {w w' : World} (h : Sat c F (cp ++ rest) w) (hi : idsO cp' = idsO cp) (hc : ∀ x ∈ cp', w'.heap[x.1]? = some x.2) (hk : Keep (idsO cp) w w') : Sat c F (cp' ++ rest) w' := by
  have hids : (cp' ++ rest).map (·.1) = (cp ++ rest).map (·.1) := by simp only [List.map_append]; rw [show cp'.map (·.1) = cp.map (·.1) from hi]
  have hin : ∀ i ∈ idsO cp, c.w0.heap.size ≤ i ∨ i ∈ c.S := fun i hm => by
    obtain ⟨x, hx, rfl⟩ := List.mem_map.1 hm
    exact h.ids x (List.mem_append_left _ hx)
  refine ⟨⟨hk.os.trans h.keep.os, hk.tape.trans h.keep.tape, hk.output.trans h.keep.output, Nat.le_trans h.keep.size hk.size, fun b hb hs => ?_⟩, fun a v ha => ?_, fun a v ha => by rw [hids]; exact h.away a v ha, by rw [hids]; exact h.nodup, fun x hx => ?_, fun x hx => ?_⟩
  · have hn : b ∉ idsO cp := fun hm => by
      rcases hin b hm with h1 | h1
      · omega
      · exact hs h1
    exact (hk.old b (Nat.lt_of_lt_of_le hb h.keep.size) hn).trans (h.keep.old b hb hs)
  · refine hk.cell (h.know a v ha) fun hm => h.away a v ha ?_
    rw [List.map_append]; exact List.mem_append_left _ hm
  · rcases List.mem_append.1 hx with hx | hx
    · exact hin x.1 (hi ▸ List.mem_map_of_mem hx)
    · exact h.ids x (List.mem_append_right _ hx)
  · rcases List.mem_append.1 hx with hx | hx
    · exact hc x hx
    · refine hk.block (h.own x (List.mem_append_right _ hx)) fun hm => ?_
      have hn := h.nodup
      rw [List.map_append, List.nodup_append] at hn
      exact hn.2.2 x.1 hm x.1 (List.mem_map_of_mem hx) rfl
theorem oOn {x : Operand} {f : FuncId} {us caps : List Value} {args : List Operand} {ts : Array TypeId} {vs : List Value} {cp rest : Own} {t : Tmp} {Rel : Value → Own → Prop} (hB : draw = true → aloneB l.toArray k = true)
    (ho : nthO l k = some ⟨some t, .call { callee := .value x, args := args.toArray, argTypes := ts }, ty, ps, af, g⟩) (hb : HasBody c.P f) (hx : Env.ev env x = some (.func (.func f) us.toArray caps.toArray)) (hv : args.mapM (Env.ev env) = some vs)
    (hd : Nat.blt t c.n = true) (hw : wantedB l.toArray env ⟨some t, .call { callee := .value x, args := args.toArray, argTypes := ts }, ty, ps, af, g⟩)
    (h : ∀ w, Sat c F (cp ++ rest) w → CallsOn c.P f (us ++ vs ++ caps) w cp Rel) (hn : ∀ v cp', Rel v cp' → idsO cp' = idsO cp → R c draw l.toArray Q (k + 1) ((t, v) :: env) F (cp' ++ rest)) : R c draw l.toArray Q k env F (cp ++ rest) := by
  refine r_call (by rw [← nthO_eq]; exact ho) hB (by simpa using hd) hw hb hx hv fun w hs => (h w hs).mono fun e w' he => ?_
  obtain ⟨v, cp', h1, h2, h3, h4, h5⟩ := he
  exact ⟨v, h1, F, cp' ++ rest, hs.lent h2 h3 h4, hn v cp' h5 h2⟩
theorem oF {x : Operand} {f : FuncId} {us caps : List Value} {args : List Operand} {ts : Array TypeId} {vs : List Value} {t : Tmp} {Rel : Value → Know → Prop} (hB : draw = true → aloneB l.toArray k = true)
    (ho : nthO l k = some ⟨some t, .call { callee := .value x, args := args.toArray, argTypes := ts }, ty, ps, af, g⟩) (hb : HasBody c.P f) (hx : Env.ev env x = some (.func (.func f) us.toArray caps.toArray)) (hv : args.mapM (Env.ev env) = some vs)
    (hd : Nat.blt t c.n = true) (hw : wantedB l.toArray env ⟨some t, .call { callee := .value x, args := args.toArray, argTypes := ts }, ty, ps, af, g⟩)
    (h : ∀ w, Sat c F own w → CallsF c.P f (us ++ vs ++ caps) w F Rel) (hn : ∀ v F', Incl F F' → Fresh c F F' → Rel v F' → R c draw l.toArray Q (k + 1) ((t, v) :: env) F' own) : R c draw l.toArray Q k env F own := by
  refine r_call (by rw [← nthO_eq]; exact ho) hB (by simpa using hd) hw hb hx hv fun w hs => (h w hs).mono fun e w' he => ?_
  obtain ⟨v, h1, h2, h3⟩ := he
  obtain ⟨h4, h5, h6, h7⟩ := (hs.keep' h2).news w.heap.size hs.keep.size
  exact ⟨v, h1, _, own, h4, hn v _ h5 h6 (h3 _ h5 fun a u g1 g2 => h7 a u g1 (fun hm => by
    obtain ⟨x, hx, e⟩ := List.mem_map.1 hm
    have := hs.ownlt x hx
    omega) g2)⟩
theorem fn_on {P : Program} {f : FuncId} {fn : Func} {code : Code} {args : List Value} {n : Nat} {w : World} {F : Know} {cp : Own} {Rel : Value → Own → Prop} (hf : P.funcs[f]? = some fn) (hb : fn.body = some code) (hn : fn.ntmps = n) (hlen : Nat.ble args.length n = true)
    (hF : ∀ a v, F a = some v → w.cell? a = some v) (haway : ∀ a v, F a = some v → a.block ∉ idsO cp) (hnd : (idsO cp).Nodup) (hown : ∀ x ∈ cp, w.heap[x.1]? = some x.2)
    (h : T ⟨P, n, w, idsO cp, none, []⟩ (mkEnv 0 args) F cp code (bodyQ P fn (fun e w' => ∃ v cp', e = .returned v ∧ idsO cp' = idsO cp ∧ (∀ x ∈ cp', w'.heap[x.1]? = some x.2) ∧ Keep (idsO cp) w w' ∧ Rel v cp'))) : CallsOn P f args w cp Rel :=
  fn_enter hf hb hn (Nat.le_of_ble_eq_true hlen) hF haway hnd (fun _ hx => List.mem_map_of_mem hx) hown h
theorem end_on {P : Program} {n : Nat} {w w1 : World} {F : Know} {cp bs cp' : Own} {v : Value} {Rel : Value → Own → Prop} (hs : Sat ⟨P, n, w, idsO cp, none, []⟩ F (bs ++ cp') w1) (hi : idsO cp' = idsO cp) (h : Rel v cp') :
    ∃ u cq, Ending.returned v = .returned u ∧ idsO cq = idsO cp ∧ (∀ x ∈ cq, w1.heap[x.1]? = some x.2) ∧ Keep (idsO cp) w w1 ∧ Rel u cq :=
  ⟨v, cp', rfl, hi, fun x hx => hs.own x (List.mem_append_right _ hx), hs.keep, h⟩
theorem fn_fresh {P : Program} {f : FuncId} {fn : Func} {code : Code} {args : List Value} {n : Nat} {w : World} {F0 F : Know} {Rel : Value → Know → Prop} (hf : P.funcs[f]? = some fn) (hb : fn.body = some code) (hn : fn.ntmps = n) (hlen : Nat.ble args.length n = true)
    (hF : ∀ a v, F a = some v → w.cell? a = some v)
    (h : T ⟨P, n, w, [], none, []⟩ (mkEnv 0 args) F [] code (bodyQ P fn (fun e w' => ∃ v, e = .returned v ∧ Keep [] w w' ∧ ∀ F' : Know, (∀ a u, F0 a = some u → F' a = some u) → (∀ a u, w.heap.size ≤ a.block → w'.cell? a = some u → F' a = some u) → Rel v F'))) : CallsF P f args w F0 Rel :=
  fn_enter hf hb hn (Nat.le_of_ble_eq_true hlen) hF (fun _ _ _ h => by cases h) (by simp) (fun _ h => by cases h) (fun _ h => by cases h) h
theorem end_fresh {P : Program} {n : Nat} {w w1 : World} {F0 G : Know} {own : Own} {v : Value} {Rel : Value → Know → Prop} (hs : Sat ⟨P, n, w, [], none, []⟩ G own w1)
    (h : ∀ F' : Know, (∀ a u, F0 a = some u → F' a = some u) → (∀ a u, G a = some u → w.heap.size ≤ a.block → F' a = some u) → (∀ p cs t fr k, (p, Obj.cells cs t fr) ∈ own → ∀ u, cs[k]? = some u → F' ⟨p, k, none⟩ = some u) → Rel v F') :
    ∃ u, Ending.returned v = .returned u ∧ Keep [] w w1 ∧ ∀ F' : Know, (∀ a u, F0 a = some u → F' a = some u) → (∀ a u, w.heap.size ≤ a.block → w1.cell? a = some u → F' a = some u) → Rel u F' := by
  refine ⟨v, rfl, hs.keep, fun F' h1 h2 => h F' h1 (fun a u ha hb => h2 a u hb (hs.know a u ha)) fun p cs t fr k hm u hu => h2 _ u ?_ ?_⟩
  · rcases hs.ids _ hm with h3 | h3
    · exact h3
    · cases h3
  · have := hs.own _ hm
    simp only at this
    simp [World.cell?, this, hu]
theorem CallsF.incl {P : Program} {f : FuncId} {args : List Value} {w : World} {F0 F : Know} {R : Value → Know → Prop} (h : CallsF P f args w F0 R) (hF : ∀ a u, F0 a = some u → F a = some u) : CallsF P f args w F R :=
  Calls.mono h fun _ _ ⟨v, h1, h2, h3⟩ => ⟨v, h1, h2, fun F' h4 h5 => h3 F' (fun a u ha => h4 a u (hF a u ha)) h5⟩
def noK : Know := fun _ => none
theorem CallsF.any {P : Program} {f : FuncId} {args : List Value} {w : World} {F : Know} {R : Value → Know → Prop} (h : CallsF P f args w noK R) : CallsF P f args w F R := h.incl fun _ _ h => by cases h
theorem CallsF.mono {P : Program} {f : FuncId} {args : List Value} {w : World} {R R' : Value → Know → Prop} (h : CallsF P f args w F R) (hr : ∀ v F', R v F' → R' v F') : CallsF P f args w F R' :=
  Calls.mono h fun _ _ ⟨v, h1, h2, h3⟩ => ⟨v, h1, h2, fun F' h4 h5 => hr v F' (h3 F' h4 h5)⟩
theorem CallsOn.mono {P : Program} {f : FuncId} {args : List Value} {w : World} {cp : Own} {R R' : Value → Own → Prop} (h : CallsOn P f args w cp R) (hr : ∀ v cp', idsO cp' = idsO cp → R v cp' → R' v cp') : CallsOn P f args w cp R' :=
  Calls.mono h fun _ _ ⟨v, cp', h1, h2, h3, h4, h5⟩ => ⟨v, cp', h1, h2, h3, h4, hr v cp' h2 h5⟩
theorem tk_perm {K : Act → World → Prop} {own' : Own} (hp : own.Perm own') (h : TK c env F own' K) : TK c env F own K := fun a w hd =>
  h a w ⟨hd.env, hd.sat.keep, hd.sat.know, fun a v ha hm => hd.sat.away a v ha ((hp.map _).mem_iff.2 hm), (hp.map _).nodup_iff.1 hd.sat.nodup, fun x hx => hd.sat.ids x (hp.mem_iff.2 hx), fun x hx => hd.sat.own x (hp.mem_iff.2 hx)⟩
end
end Go.Eng
namespace Go.Eng
open Go
section
variable {c : Cx} {env : Env} {F : Know} {own : Own} {Q : Exit → Act → World → Prop}
variable {d : Option Tmp} {ty : TypeId} {ps : String} {af : Array Edge} {g : Option (Nat × Bool)} {l : List Oper} {k : Nat} {draw : Bool}
theorem Sat.perm {own' : Own} {w : World} (h : Sat c F own w) (hp : own.Perm own') : Sat c F own' w :=
  ⟨h.keep, h.know, fun a v ha hm => h.away a v ha ((hp.map _).mem_iff.2 hm), (hp.map _).nodup_iff.1 h.nodup, fun x hx => h.ids x (hp.mem_iff.2 hx), fun x hx => h.own x (hp.mem_iff.2 hx)⟩
theorem oOnS {x : Operand} {f : FuncId} {us caps : List Value} {args : List Operand} {ts : Array TypeId} {vs : List Value} {pre cp : Own} {t : Tmp} {Rel : Value → Own → Prop} (hB : draw = true → aloneB l.toArray k = true)
    (ho : nthO l k = some ⟨some t, .call { callee := .value x, args := args.toArray, argTypes := ts }, ty, ps, af, g⟩) (hb : HasBody c.P f) (hx : Env.ev env x = some (.func (.func f) us.toArray caps.toArray)) (hv : args.mapM (Env.ev env) = some vs)
    (hd : Nat.blt t c.n = true) (hw : wantedB l.toArray env ⟨some t, .call { callee := .value x, args := args.toArray, argTypes := ts }, ty, ps, af, g⟩)
    (h : ∀ w, Sat c F (pre ++ cp) w → CallsOn c.P f (us ++ vs ++ caps) w cp Rel) (hn : ∀ v cp', Rel v cp' → idsO cp' = idsO cp → R c draw l.toArray Q (k + 1) ((t, v) :: env) F (pre ++ cp')) : R c draw l.toArray Q k env F (pre ++ cp) :=
  tk_perm List.perm_append_comm (oOn hB ho hb hx hv hd hw (fun w hs => h w (hs.perm List.perm_append_comm)) fun v cp' hr hi => tk_perm List.perm_append_comm (hn v cp' hr hi))
theorem mem_call {F0 : Know} (h0 : Incl F0 F) {x : Operand} {f : FuncId} {us caps : List Value} {args : List Operand} {ts : Array TypeId} {vs : List Value} {Rl : Value → Know → Prop} (hb : HasBody c.P f) (hx : Env.ev env x = some (.func (.func f) us.toArray caps.toArray)) (hv : args.mapM (Env.ev env) = some vs)
    (h : ∀ w, Sat c F own w → CallsF c.P f (us ++ vs ++ caps) w F0 Rl) : Mem c F0 F own env ⟨d, .call { callee := .value x, args := args.toArray, argTypes := ts }, ty, ps, af, g⟩ Rl := by
  intro a ha w hw
  rw [run_call ha hb hx hv]
  refine ⟨rfl, Calls.mono (h w hw) fun e w' he => ?_⟩
  obtain ⟨v, h1, h2, h3⟩ := he
  refine ⟨v, h1, h2, ⟨fun a => w'.cell? a, h3 _ (fun a u ha => (hw.keep' h2).know a u (h0 a u ha)) fun a u _ hu => hu⟩, fun F' hF hK => h3 F' hF fun a u hlo hu => ?_⟩
  have hlt := cell_lt hu
  have hm : (a.block, w'.heap.getD a.block (.cells #[] 0)) ∈ newsOf w w' := List.mem_map.2 ⟨a.block, by rw [List.mem_range'_1]; omega, rfl⟩
  refine hK _ hm a u rfl ?_
  have h4 := (newsOf_mem hm).2
  rw [cell_objCell h4] at hu
  exact hu
end
end Go.Eng

/-
  The engine, part 8: slices of one's own that grow.
-/
namespace Go.Eng
open Go
def SlO (e : TypeId) (size : Nat) (v : Value) (n : Nat) (xs : List Value) (b : Own) : Prop :=
  xs.length = n * size ∧ ((v = .slice none 0 0 ∧ n = 0 ∧ b = []) ∨
    ∃ p cap rest, v = .slice (some ⟨p, 0, none⟩) n cap ∧ b = [(p, .cells (xs ++ rest).toArray e (0, 0))] ∧ n ≤ cap ∧ cap ≤ maxLen ∧ (xs ++ rest).length = cap * size)
structure AppT (P : Program) (t e : TypeId) (size bytes : Nat) : Prop where
  ud : P.underlying t = some (.slice e)
  el : ∃ (i : TypeInfo) (z : Value), P.info? e = some i ∧ i.zero = some z ∧ i.size = size ∧ i.bytes = bytes ∧ z.cells.size = size
  pos : 0 < size
theorem SlO.nil (e : TypeId) (size : Nat) : SlO e size (.slice none 0 0) 0 [] [] := ⟨by simp, .inl ⟨rfl, rfl, rfl⟩⟩
theorem SlO.lit {e : TypeId} {size p n : Nat} {xs : List Value} (h : xs.length = n * size) (hm : n ≤ maxLen) : SlO e size (.slice (some ⟨p, 0, none⟩) n n) n xs [(p, .cells xs.toArray e (0, 0))] :=
  ⟨h, .inr ⟨p, n, [], rfl, by simp, Nat.le_refl _, hm, by simpa using h⟩⟩
theorem SlO.slice {e : TypeId} {size n : Nat} {v : Value} {xs : List Value} {b : Own} (h : SlO e size v n xs b) : ∃ A cap, v = .slice A n cap ∧ n ≤ cap ∧ cap ≤ maxLen ∧ (0 < n → ∃ a, A = some a ∧ a.off = 0 ∧ a.spot = none) := by
  rcases h.2 with ⟨rfl, rfl, _⟩ | ⟨p, cap, rest, rfl, _, h1, h2, _⟩
  · exact ⟨none, 0, rfl, Nat.le_refl _, Nat.zero_le _, fun h => absurd h (Nat.lt_irrefl _)⟩
  · exact ⟨_, cap, rfl, h1, h2, fun _ => ⟨_, rfl, rfl, rfl⟩⟩
section
variable {c : Cx} {env : Env} {F : Know} {own : Own} {Q : Exit → Act → World → Prop}
variable {ty : TypeId} {ps : String} {af : Array Edge} {g : Option (Nat × Bool)} {l : List Oper} {k : Nat} {draw : Bool}
theorem Sat.drewn {w : World} (h : Sat c F own w) : Sat c F own w.drew :=
  ⟨⟨h.keep.os, h.keep.tape, h.keep.output, h.keep.size, fun b hb hs => h.keep.old b hb hs⟩, h.know, h.away, h.nodup, h.ids, h.own⟩
theorem Sat.addN {w : World} (h : Sat c F own w) (o : Obj) : Sat c F ((w.heap.size, o) :: own) (w.alloc o) := by
  have hlt : ∀ x ∈ own, x.1 < w.heap.size := fun x hx => heap_lt (h.own x hx)
  refine ⟨h.keep.trans (Keep.alloc _ _ _), fun a v ha => ?_, fun a v ha hm => ?_, ?_, fun x hx => ?_, fun x hx => ?_⟩
  · exact (Keep.alloc [] w o).cell (h.know a v ha) (by simp)
  · have hc := h.know a v ha
    have hb : a.block < w.heap.size := World.block_lt_of_cell? w a hc
    rcases List.mem_cons.1 hm with e | hm
    · simp only at e; omega
    · exact h.away a v ha hm
  · rw [List.map_cons, List.nodup_cons]
    refine ⟨fun hm => ?_, h.nodup⟩
    obtain ⟨x, hx, e⟩ := List.mem_map.1 hm
    have := hlt x hx
    simp only at e; omega
  · rcases List.mem_cons.1 hx with rfl | hx
    · exact .inl h.keep.size
    · exact h.ids x hx
  · rcases List.mem_cons.1 hx with rfl | hx
    · exact heap_alloc_new w o
    · exact (Keep.alloc [] w o).block (h.own x hx) (by simp)
theorem Sat.sub {own' : Own} {w : World} (h : Sat c F own w) (hs : own'.Sublist own) : Sat c F own' w :=
  ⟨h.keep, h.know, fun a v ha hm => h.away a v ha ((hs.map _).subset hm), (hs.map _).nodup h.nodup, fun x hx => h.ids x (hs.subset hx), fun x hx => h.own x (hs.subset hx)⟩
theorem Sat.setRow {pre post : Own} {p : Nat} {cs cs' : Array Value} {e : TypeId} {w : World} (h : Sat c F (pre ++ ([(p, .cells cs e (0, 0))] ++ post)) w) : Sat c F (pre ++ ([(p, .cells cs' e (0, 0))] ++ post)) (w.setRow p cs') := by
  have hu : Upd p (.cells cs e (0, 0)) (.cells cs' e (0, 0)) (pre ++ ([(p, .cells cs e (0, 0))] ++ post)) (pre ++ ([(p, .cells cs' e (0, 0))] ++ post)) := .app .head
  have h2 := h.upd hu
  have hp := h.own _ hu.mem
  simp only at hp
  have e1 : w.setRow p cs' = setBlk w p (.cells cs' e (0, 0)) := by
    have hlt := heap_lt hp
    unfold World.setRow setBlk
    congr 1
    apply Array.ext_getElem?
    intro j
    rw [Array.getElem?_modify, Array.getElem?_setIfInBounds]
    by_cases hj : p = j
    · subst hj
      rw [if_pos rfl, if_pos rfl, if_pos hlt, hp]; rfl
    · rw [if_neg hj, if_neg hj]
  rw [e1]; exact h2
theorem run_append_sl {P : Program} {t e : TypeId} {size bytes : Nat} (hT : AppT P t e size bytes) {c : Cx} {F : Know} {pre b post : Own} {v : Value} {n : Nat} {xs : List Value} (hS : SlO e size v n xs b)
    {A : Option Addr} {m cp : Nat} {news : List Value} (hl : news.length = m * size) {w : World} (hs : Sat c F (pre ++ (b ++ post)) w) (hnews : ∀ j u, news[j]? = some u → ∃ a, A = some a ∧ w.cell? (a.add j) = some u) (h1 : ∀ u ∈ news, u.oneCell' = true)
    (hm : (n + m) * bytes ≤ 140737488355328) (hm2 : n + m ≤ maxLen) (ty : TypeId) :
    ∃ v' w' b', (Builtin.append_ #[t, t] ty #[v, .slice A m cp]).run P w = .ok v' w' ∧ SlO e size v' (n + m) (xs ++ news) b' ∧ Sat c F (pre ++ (b' ++ post)) w' := by
  obtain ⟨i, z, hi, hz, hsz, hby, hzs⟩ := hT.el
  subst hsz; subst hby
  have hlen : (xs ++ news).length = (n + m) * i.size := by rw [List.length_append, hS.1, hl, Nat.add_mul]
  have hsmall : n + m ≤ 9223372036854775807 := by simp only [maxLen] at hm2; omega
  have hpos := hT.pos
  have grown : ∀ (old : Nat), ∃ b', SlO e i.size (.slice (some ⟨w.heap.size, 0, none⟩) (n + m) (grownCap w (n + m) old e)) (n + m) (xs ++ news) b' ∧
      Sat c F (pre ++ (b' ++ post)) (w.drew.alloc (.cells (xs.toArray ++ news.toArray ++ Builtin.zeroCells z.cells (grownCap w (n + m) old e - (n + m))) e)) := by
    intro old
    have hge := grownCap_ge w (n + m) old e
    have hcm := grownCap_le_maxLen w (n + m) old e hm2
    refine ⟨[(w.heap.size, .cells (xs.toArray ++ news.toArray ++ Builtin.zeroCells z.cells (grownCap w (n + m) old e - (n + m))) e)], ⟨hlen, .inr ⟨_, _, (Builtin.zeroCells z.cells (grownCap w (n + m) old e - (n + m))).toList, rfl, ?_, hge, hcm, ?_⟩⟩, ?_⟩
    · simp
    · rw [List.length_append, hlen, Array.length_toList, size_zeroCells, hzs, ← Nat.add_mul]
      congr 1; omega
    · have hd : Sat c F (pre ++ post) w.drew := hs.drewn.sub ((List.Sublist.refl _).append (List.sublist_append_right _ _))
      have ha := hd.addN (.cells (xs.toArray ++ news.toArray ++ Builtin.zeroCells z.cells (grownCap w (n + m) old e - (n + m))) e)
      refine ha.perm ?_
      simpa using (List.perm_middle (a := (w.heap.size, Obj.cells (xs.toArray ++ news.toArray ++ Builtin.zeroCells z.cells (grownCap w (n + m) old e - (n + m))) e)) (l₁ := pre) (l₂ := post)).symm
  by_cases hm0 : m = 0
  · subst hm0
    have hn : news = [] := List.eq_nil_of_length_eq_zero (by simpa using hl)
    subst hn
    refine ⟨v, w, b, ?_, by simpa using hS, hs⟩
    have hl0 : (Builtin.lenOf (.slice A 0 cp)).run P w = .ok 0 w := by simp [Builtin.lenOf]
    have hf : (Builtin.firstCells i.size 0 (.slice A 0 cp)).run P w = .ok #[] w := by
      cases A with
      | none => simp [Builtin.firstCells]
      | some a => simp [Builtin.firstCells, loadCells, loadCellsFrom]
    rcases hS.2 with ⟨rfl, rfl, _⟩ | ⟨p, cap, rest, rfl, rfl, h2, h3, h4⟩
    · simp [Builtin.append_, run_underlying hT.ud, sizeOf, typeInfo, hi, hl0, hf]
    · have hle : n + 0 ≤ cap := by omega
      simp [Builtin.append_, run_underlying hT.ud, sizeOf, typeInfo, hi, hl0, hf, h2, Addr.add_lit, storeCells]
  · obtain ⟨a, rfl⟩ : ∃ a, A = some a := by
      have h0 : 0 < news.length := by rw [hl]; exact Nat.mul_pos (by omega) hpos
      obtain ⟨a, ha, _⟩ := hnews 0 news[0] (List.getElem?_eq_getElem h0)
      exact ⟨a, ha⟩
    have hnw : ∀ j u, news[j]? = some u → w.cell? (a.add j) = some u := fun j u hj => by
      obtain ⟨a', ha, h2⟩ := hnews j u hj
      cases ha; exact h2
    rcases hS.2 with ⟨rfl, rfl, rfl⟩ | ⟨p, cap, rest, rfl, rfl, h2, h3, h4⟩
    · have hx : xs = [] := List.eq_nil_of_length_eq_zero (by simpa using hS.1)
      subst hx
      have hr := run_append_nil (P := P) w t ty e i z hT.ud hi hz a m cp news hl hnw (by omega) (by omega) (by have hb := hm; simp only [Nat.zero_add] at hb; omega)
      obtain ⟨b', h5, h6⟩ := grown 0
      simp only [Nat.zero_add, List.nil_append, Array.empty_append] at h5 h6 hr ⊢
      exact ⟨_, _, b', hr, h5, h6⟩
    · have hg : w.heap[p]? = some (.cells (xs ++ rest).toArray e (0, 0)) := hs.own (p, _) (List.mem_append_right _ (List.mem_append_left _ List.mem_cons_self))
      by_cases hroom : n + m ≤ cap
      · have hfit : n * i.size + news.length ≤ (xs ++ rest).toArray.size := by rw [List.size_toArray, h4, hl, ← Nat.add_mul]; exact Nat.mul_le_mul_right _ hroom
        have hr := run_append_room (P := P) w t ty e i hT.ud hi p n cap _ hg a m cp news hl hnw h1 hroom hfit
        have e1 : ((xs ++ rest).take (n * i.size) ++ news ++ (xs ++ rest).drop (n * i.size + news.length)) = (xs ++ news) ++ rest.drop news.length := by
          rw [← hS.1, List.take_left, List.drop_append]
          simp
        rw [show ((xs ++ rest).toArray.toList.take (n * i.size) ++ news ++ (xs ++ rest).toArray.toList.drop (n * i.size + news.length)) = (xs ++ news) ++ rest.drop news.length from e1] at hr
        refine ⟨_, _, [(p, .cells ((xs ++ news) ++ rest.drop news.length).toArray e (0, 0))], hr, ⟨hlen, .inr ⟨p, cap, rest.drop news.length, rfl, rfl, hroom, h3, ?_⟩⟩, hs.setRow⟩
        have h5 : rest.length = cap * i.size - n * i.size := by have := h4; rw [List.length_append, hS.1] at this; omega
        have h6 : (n + m) * i.size ≤ cap * i.size := Nat.mul_le_mul_right _ hroom
        rw [List.length_append, hlen, List.length_drop, h5, hl]
        rw [Nat.add_mul] at h6 ⊢
        omega
      · have holds : ∀ j u, xs[j]? = some u → w.cell? ((⟨p, 0, none⟩ : Addr).add j) = some u := fun j u hu => by
          have hadd : (⟨p, 0, none⟩ : Addr).add j = ⟨p, j, none⟩ := by unfold Addr.add; split <;> simp_all
          rw [hadd, cell_of_row w p j _ e (0, 0) hg]
          have hjl : j < xs.length := (List.getElem?_eq_some_iff.1 hu).1
          simp [List.getElem?_append_left hjl, hu]
        have hr := run_append_grow (P := P) w t ty e i z hT.ud hi hz ⟨p, 0, none⟩ n cap xs hS.1 holds a m cp news hl hnw (by omega) (by omega) (growslice_fits (by omega) hm)
        obtain ⟨b', h5, h6⟩ := grown cap
        exact ⟨_, _, b', hr, h5, h6⟩
end
section
variable {c : Cx} {env : Env} {F : Know} {own : Own} {Q : Exit → Act → World → Prop}
variable {ty : TypeId} {ps : String} {af : Array Edge} {g : Option (Nat × Bool)} {l : List Oper} {k : Nat} {draw : Bool}
theorem oApp {s x : Operand} {T e : TypeId} {size bytes : Nat} {pre b post : Own} {v : Value} {n : Nat} {xs : List Value} {A : Option Addr} {m cp : Nat} {news : List Value} {t : Tmp} (hB : draw = true → aloneB l.toArray k = true)
    (ho : nthO l k = some ⟨some t, .call { callee := .builtin .append, args := #[s, x], argTypes := #[T, T] }, ty, ps, af, g⟩) (hT : AppT c.P T e size bytes) (hv : Env.ev env s = some v) (hx : Env.ev env x = some (.slice A m cp))
    (hd : Nat.blt t c.n = true) (hw : wantedB l.toArray env ⟨some t, .call { callee := .builtin .append, args := #[s, x], argTypes := #[T, T] }, ty, ps, af, g⟩)
    (hS : SlO e size v n xs b) (hl : news.length = m * size) (hnews : ∀ w, Sat c F (pre ++ (b ++ post)) w → ∀ j u, news[j]? = some u → ∃ a, A = some a ∧ w.cell? (a.add j) = some u) (h1 : ∀ u ∈ news, u.oneCell' = true)
    (hm : (n + m) * bytes ≤ 140737488355328) (hm2 : n + m ≤ maxLen)
    (hn : ∀ A' cp' b', SlO e size (.slice A' (n + m) cp') (n + m) (xs ++ news) b' → R c draw l.toArray Q (k + 1) ((t, .slice A' (n + m) cp') :: env) F (pre ++ (b' ++ post))) : R c draw l.toArray Q k env F (pre ++ (b ++ post)) := by
  refine r_one (Array.getElem?_eq_some_iff.1 (by rw [← nthO_eq]; exact ho)).1 hB fun a w hh => ?_
  unfold wpOpIn
  have ho' : l.toArray[k]? = some ⟨some t, .call { callee := .builtin .append, args := #[s, x], argTypes := #[T, T] }, ty, ps, af, g⟩ := by rw [← nthO_eq]; exact ho
  simp only [ho', wanted_of hh.env hw, if_true]
  refine ⟨fun _ _ => trivial, ?_⟩
  rw [Oper.semAt_eq _ _ _ (fun _ h => by cases h)]
  obtain ⟨v', w', b', hr, h2, h3⟩ := run_append_sl hT hS hl hh.sat (hnews w hh.sat) h1 hm hm2 ty
  unfold execOp
  simp only [resolve, invoke, builtin, Sem.run_bind, Sem.run_pure, Result.andThen_ok, List.map_toArray, List.map_cons, List.map_nil, hh.env.eval hv, hh.env.eval hx]
  rw [hr]
  obtain ⟨A', cp', rfl, _⟩ := h2.slice
  exact hn A' cp' b' h2 _ _ ⟨hh.env.put' (d := some t) (by simpa using hd) _, h3⟩
theorem oAppS {s x : Operand} {T e : TypeId} {size bytes : Nat} {pre b : Own} {v : Value} {n : Nat} {xs : List Value} {A : Option Addr} {m cp : Nat} {news : List Value} {t : Tmp} (hB : draw = true → aloneB l.toArray k = true)
    (ho : nthO l k = some ⟨some t, .call { callee := .builtin .append, args := #[s, x], argTypes := #[T, T] }, ty, ps, af, g⟩) (hT : AppT c.P T e size bytes) (hv : Env.ev env s = some v) (hx : Env.ev env x = some (.slice A m cp))
    (hd : Nat.blt t c.n = true) (hw : wantedB l.toArray env ⟨some t, .call { callee := .builtin .append, args := #[s, x], argTypes := #[T, T] }, ty, ps, af, g⟩)
    (hS : SlO e size v n xs b) (hl : news.length = m * size) (hnews : ∀ w, Sat c F (pre ++ b) w → ∀ j u, news[j]? = some u → ∃ a, A = some a ∧ w.cell? (a.add j) = some u) (h1 : ∀ u ∈ news, u.oneCell' = true)
    (hm : (n + m) * bytes ≤ 140737488355328) (hm2 : n + m ≤ maxLen)
    (hn : ∀ A' cp' b', SlO e size (.slice A' (n + m) cp') (n + m) (xs ++ news) b' → R c draw l.toArray Q (k + 1) ((t, .slice A' (n + m) cp') :: env) F (pre ++ b')) : R c draw l.toArray Q k env F (pre ++ b) := by
  have h := oApp (c := c) (env := env) (F := F) (Q := Q) (l := l) (k := k) (draw := draw) (pre := pre) (b := b) (post := []) (news := news) hB ho hT hv hx hd hw hS hl (by simpa using hnews) h1 hm hm2 (by simpa using hn)
  simpa using h
theorem SlO.cell {e : TypeId} {size n : Nat} {v : Value} {xs : List Value} {b : Own} (h : SlO e size v n xs b) {A : Option Addr} {m cp : Nat} (hv : v = .slice A m cp) {w : World} (hw : ∀ x ∈ b, w.heap[x.1]? = some x.2) :
    ∀ j u, xs[j]? = some u → ∃ a, A = some a ∧ w.cell? (a.add j) = some u := by
  intro j u hj
  rcases h.2 with ⟨rfl, rfl, _⟩ | ⟨p, cap, rest, rfl, rfl, _⟩
  · have : xs = [] := List.eq_nil_of_length_eq_zero (by simpa using h.1)
    subst this; simp at hj
  · cases hv
    refine ⟨_, rfl, ?_⟩
    have hg := hw _ List.mem_cons_self
    simp only at hg
    have hadd : (⟨p, 0, none⟩ : Addr).add j = ⟨p, j, none⟩ := by unfold Addr.add; split <;> simp_all
    rw [hadd, cell_of_row w p j _ e (0, 0) hg]
    have hjl : j < xs.length := (List.getElem?_eq_some_iff.1 hj).1
    simp [List.getElem?_append_left hjl, hj]
theorem SlO.later {e : TypeId} {size n : Nat} {v : Value} {xs : List Value} {b : Own} (h : SlO e size v n xs b) {F' : Know} (hF : ∀ p cs t fr k, (p, Obj.cells cs t fr) ∈ b → ∀ u, cs[k]? = some u → F' ⟨p, k, none⟩ = some u) :
    ∃ A cap, v = .slice A n cap ∧ n ≤ cap ∧ cap ≤ maxLen ∧ ∀ j u, xs[j]? = some u → ∃ a, A = some a ∧ F' (a.add j) = some u := by
  rcases h.2 with ⟨rfl, rfl, _⟩ | ⟨p, cap, rest, rfl, rfl, h2, h3, _⟩
  · have : xs = [] := List.eq_nil_of_length_eq_zero (by simpa using h.1)
    subst this
    exact ⟨none, 0, rfl, Nat.le_refl _, Nat.zero_le _, fun j u hj => by simp at hj⟩
  · refine ⟨_, cap, rfl, h2, h3, fun j u hj => ⟨_, rfl, ?_⟩⟩
    have hadd : (⟨p, 0, none⟩ : Addr).add j = ⟨p, j, none⟩ := by unfold Addr.add; split <;> simp_all
    rw [hadd]
    have hjl : j < xs.length := (List.getElem?_eq_some_iff.1 hj).1
    exact hF p _ e (0, 0) j List.mem_cons_self u (by simp [List.getElem?_append_left hjl, hj])
theorem Sat.cellO {w : World} (h : Sat c F own w) {p : Nat} {cs : List Value} {T : TypeId} {fr : Nat × Nat} (hm : (p, Obj.cells cs.toArray T fr) ∈ own) {j : Nat} {u : Value} (hj : cs[j]? = some u) : ∃ a, some (⟨p, 0, none⟩ : Addr) = some a ∧ w.cell? (a.add j) = some u := by
  refine ⟨_, rfl, ?_⟩
  have hg := h.own _ hm
  simp only at hg
  have hadd : (⟨p, 0, none⟩ : Addr).add j = ⟨p, j, none⟩ := by unfold Addr.add; split <;> simp_all
  rw [hadd]
  simp [World.cell?, hg, hj]
theorem new_app0 {s x : Operand} {T e : TypeId} {size bytes : Nat} {d : Option Tmp} {B : Option Addr} {A : Option Addr} {m cp : Nat} {news : List Value} (hT : AppT c.P T e size bytes) (hv : Env.ev env s = some (.slice B 0 0)) (hx : Env.ev env x = some (.slice A m cp))
    (hl : news.length = m * size) (h0 : 0 < m) (hnews : ∀ j u, news[j]? = some u → ∃ a, A = some a ∧ F (a.add j) = some u) (hm : m * bytes ≤ 140737488355328) (hm2 : m ≤ maxLen) :
    New c F own env ⟨d, .call { callee := .builtin .append, args := #[s, x], argTypes := #[T, T] }, ty, ps, af, g⟩ (fun p v ob => SlO e size v m news [(p, ob)]) := by
  intro a ha w hw
  obtain ⟨i, z, hi, hz, hsz, hby, hzs⟩ := hT.el
  subst hsz; subst hby
  have hpos := hT.pos
  obtain ⟨ad, rfl⟩ : ∃ a, A = some a := by
    have h0 : 0 < news.length := by rw [hl]; exact Nat.mul_pos h0 hpos
    obtain ⟨a, ha, _⟩ := hnews 0 news[0] (List.getElem?_eq_getElem h0)
    exact ⟨a, ha⟩
  have hnw : ∀ j u, news[j]? = some u → w.cell? (ad.add j) = some u := fun j u hj => by
    obtain ⟨a', ha, h2⟩ := hnews j u hj
    cases ha; exact hw.know _ _ h2
  have hsmall : m ≤ 9223372036854775807 := by simp only [maxLen] at hm2; omega
  have hge := grownCap_ge w m 0 e
  have hcm := grownCap_le_maxLen w m 0 e hm2
  have hSl : SlO e i.size (.slice (some ⟨w.heap.size, 0, none⟩) m (grownCap w m 0 e)) m news [(w.heap.size, .cells (news.toArray ++ Builtin.zeroCells z.cells (grownCap w m 0 e - m)) e)] := by
    refine ⟨hl, .inr ⟨_, _, (Builtin.zeroCells z.cells (grownCap w m 0 e - m)).toList, rfl, by simp, hge, hcm, ?_⟩⟩
    rw [List.length_append, hl, Array.length_toList, size_zeroCells, hzs, ← Nat.add_mul]
    congr 1; omega
  have hgr : Grew w (w.drew.alloc (.cells (news.toArray ++ Builtin.zeroCells z.cells (grownCap w m 0 e - m)) e)) (some (.cells (news.toArray ++ Builtin.zeroCells z.cells (grownCap w m 0 e - m)) e)) :=
    ⟨rfl, rfl, rfl, by show w.heap.push _ = _; simp⟩
  have hrun : (Builtin.append_ #[T, T] ty #[.slice B 0 0, .slice (some ad) m cp]).run c.P w = .ok (.slice (some ⟨w.heap.size, 0, none⟩) m (grownCap w m 0 e)) (w.drew.alloc (.cells (news.toArray ++ Builtin.zeroCells z.cells (grownCap w m 0 e - m)) e)) := by
    cases B with
    | none => exact run_append_nil (P := c.P) w T ty e i z hT.ud hi hz ad m cp news hl hnw h0 (by omega) (by omega)
    | some b =>
      have hr := run_append_grow (P := c.P) w T ty e i z hT.ud hi hz b 0 0 [] (by simp) (fun j v h => by simp at h) ad m cp news hl hnw (by omega) (by omega) (growslice_fits (by omega) (by simpa using hm))
      simpa using hr
  refine ⟨_, _, _, ?_, hgr, hSl⟩
  unfold execOp
  simp only [resolve, invoke, builtin, Sem.run_bind, Sem.run_pure, Result.andThen_ok, List.map_toArray, List.map_cons, List.map_nil, ha.eval hv, ha.eval hx]
  rw [hrun]
  rfl
theorem add_zero' (a : Addr) : a.add 0 = a := by unfold Addr.add; split <;> simp_all
theorem tk_freeze {K : Act → World → Prop} {pre post : Own} {p : Nat} {cs : List Value} {T : TypeId} {fr : Nat × Nat} (hS : c.S = []) (h : ∀ F', Incl F F' → Fresh c F F' → (∀ k u, cs[k]? = some u → F' ⟨p, k, none⟩ = some u) → TK c env F' (pre ++ post) K) : TK c env F (pre ++ (p, .cells cs.toArray T fr) :: post) K := by
  intro a w hd
  have hs := hd.sat
  have hm : (p, Obj.cells cs.toArray T fr) ∈ pre ++ (p, .cells cs.toArray T fr) :: post := List.mem_append_right _ List.mem_cons_self
  have hp := hs.own _ hm
  simp only at hp
  have hlo : c.w0.heap.size ≤ p := by
    rcases hs.ids _ hm with h1 | h1
    · exact h1
    · rw [hS] at h1; cases h1
  have hsub : (pre ++ post).Sublist (pre ++ (p, Obj.cells cs.toArray T fr) :: post) := (List.sublist_cons_self _ _).append_left _
  have hs2 := hs.sub hsub
  have hnp : p ∉ (pre ++ post).map (·.1) := by
    have hn := hs.nodup
    rw [List.map_append, List.map_cons, List.nodup_append, List.nodup_cons] at hn
    rw [List.map_append, List.mem_append]
    rintro (h1 | h1)
    · exact hn.2.2 p h1 p List.mem_cons_self rfl
    · exact hn.2.1.1 h1
  have hnF : ∀ a u, F a = some u → a.block ≠ p := fun a u ha e => hs.away a u ha (by rw [e]; exact List.mem_map_of_mem (f := (·.1)) hm)
  refine h (fun a => if a.block = p then objCell a (.cells cs.toArray T fr) else F a) (fun a u ha => ?_) (fun a u ha => ?_) (fun k u hu => ?_) a w ⟨hd.env, hs2.keep, fun a v ha => ?_, fun a v ha hm' => ?_, hs2.nodup, hs2.ids, hs2.own⟩
  · simp only [if_neg (hnF a u ha), ha]
  · simp only at ha
    split at ha
    · rename_i e; exact .inr (by rw [e]; exact hlo)
    · exact .inl ha
  · simp [objCell, hu]
  · split at ha
    · rename_i e
      rw [cell_objCell (by rw [e]; exact hp), ha]
    · exact hs.know a v ha
  · split at ha
    · rename_i e; rw [e] at hm'; exact hnp hm'
    · exact hs2.away a v ha hm'
structure MakeT (P : Program) (t e : TypeId) (bytes : Nat) (zs : List Value) : Prop where
  ud : P.underlying t = some (.slice e)
  el : ∃ (i : TypeInfo) (z : Value), P.info? e = some i ∧ i.zero = some z ∧ i.size = zs.length ∧ i.bytes = bytes ∧ z.cells = zs.toArray
theorem madeCells_eq (zs : List Value) : ∀ n, madeCells zs.toArray (n * zs.length) = ((List.replicate n zs).flatten).toArray
  | 0 => by simp [madeCells]
  | n + 1 => by
    have ih := madeCells_eq zs n
    have h : ∀ i, i < zs.length → zs.toArray[(n * zs.length + i) % zs.toArray.size]! = zs.toArray[i]! := fun i hi => by
      congr 1
      simp only [List.size_toArray]
      rw [Nat.mul_comm, Nat.mul_add_mod, Nat.mod_eq_of_lt hi]
    apply Array.ext'
    have ih' := congrArg Array.toList ih
    simp only [madeCells, Array.toList_map, Array.toList_range] at ih' ⊢
    rw [Nat.add_mul, Nat.one_mul, List.range_add, List.map_append, ih', List.replicate_succ', List.flatten_append]
    congr 1
    simp only [List.map_map, List.flatten_cons, List.flatten_nil, List.append_nil]
    apply List.ext_getElem
    · simp
    · intro i h1 h2
      simp only [List.getElem_map, List.getElem_range, Function.comp_apply]
      have h3 : i < zs.length := by simpa using h1
      rw [h i h3]
      simp [h3]
theorem new_makeSlice {d : Option Tmp} {t e : TypeId} {bytes : Nat} {zs : List Value} {x y : Operand} {kl kc : IntKind} {l c' : Int} (hT : MakeT c.P t e bytes zs) (hx : Env.ev env x = some (.int kl l)) (hy : Env.ev env y = some (.int kc c')) (h0 : 0 ≤ l) (h1 : l ≤ c')
    (h2 : (bytes : Int) * c' ≤ 281474976710656) (h3 : c' ≤ 9223372036854775807) :
    New c F own env ⟨d, .makeSlice t x y, ty, ps, af, g⟩ (fun p v ob => v = .slice (some ⟨p, 0, none⟩) l.toNat c'.toNat ∧ ob = .cells ((List.replicate c'.toNat zs).flatten).toArray e (0, 0)) := by
  intro a ha w hw
  obtain ⟨i, z, hi, hz, hsz, hby, hzc⟩ := hT.el
  have hr := run_make (P := c.P) w t e i z hT.ud hi hz kl kc l c' h0 h1 (by rw [hby]; exact h2) h3
  rw [hzc, hsz, madeCells_eq] at hr
  refine ⟨_, _, _, ?_, Grew.alloc w (.cells ((List.replicate c'.toNat zs).flatten).toArray e (0, 0)), rfl, rfl⟩
  simp only [execOp, ha.eval hx, ha.eval hy, hr, Sem.run_bind, Result.andThen_ok, Sem.run_pure]
end
end Go.Eng

/-
  The engine, part 9: what is known of slices of numbers.
-/
namespace Go.Eng
open Go
structure IntsK (F : Know) (kd : IntKind) (A : Option Addr) (n : Nat) (xs : List Int) : Prop where
  len : n = xs.length
  at_ : ∀ (i : Nat) (x : Int), xs[i]? = some x → ∃ a, A = some a ∧ F (a.add i) = some (.int kd x)
  rng : ∀ (i : Nat) (h : i < xs.length), kd.min ≤ xs[i] ∧ xs[i] ≤ kd.max
theorem IntsK.some {F : Know} {kd : IntKind} {A : Option Addr} {n : Nat} {xs : List Int} (h : IntsK F kd A n xs) {i : Nat} (hi : i < xs.length) : ∃ a, A = Option.some a := by
  obtain ⟨a, ha, _⟩ := h.at_ i xs[i] (List.getElem?_eq_getElem hi)
  exact ⟨a, ha⟩
theorem IntsK.cell {F : Know} {kd : IntKind} {a : Addr} {n : Nat} {xs : List Int} (h : IntsK F kd (Option.some a) n xs) {i : Int} (_h0 : 0 ≤ i) (hi : i.toNat < xs.length) : F (a.add (i.toNat * 1)) = Option.some (.int kd xs[i.toNat]) := by
  obtain ⟨b, hb, h1⟩ := h.at_ i.toNat xs[i.toNat] (List.getElem?_eq_getElem hi)
  cases hb
  rw [Nat.mul_one]; exact h1
theorem IntsK.mono {F F' : Know} {kd : IntKind} {A : Option Addr} {n : Nat} {xs : List Int} (h : IntsK F kd A n xs) (hF : ∀ a v, F a = Option.some v → F' a = Option.some v) : IntsK F' kd A n xs :=
  ⟨h.len, fun i e he => by obtain ⟨a, h1, h2⟩ := h.at_ i e he; exact ⟨a, h1, hF _ _ h2⟩, h.rng⟩
end Go.Eng

/-
  The engine, part 10: '==' of structs; slices of pairs of numbers.
-/
namespace Go.Eng
open Go
inductive EqFs (P : Program) (d : Nat) (w : World) (xs ys : List Value) : List (TypeId × Nat × Bool) → Bool → Prop
  | nil : EqFs P d w xs ys [] true
  | last {t : TypeId} {off : Nat} {a b : Value} {r : Bool} : (part t xs.toArray off).run P w = .ok a w → (part t ys.toArray off).run P w = .ok b w → (Op.equalIn d t a b).run P w = .ok r w → EqFs P d w xs ys [(t, off, false)] r
  | cons {t : TypeId} {off : Nat} {rest : List (TypeId × Nat × Bool)} {a b : Value} {r s : Bool} : (part t xs.toArray off).run P w = .ok a w → (part t ys.toArray off).run P w = .ok b w → (Op.equalIn d t a b).run P w = .ok r w → EqFs P d w xs ys rest s → EqFs P d w xs ys ((t, off, false) :: rest) (r && s)
theorem run_eqFs {P : Program} {d : Nat} {w : World} {xs ys : List Value} {plan : List (TypeId × Nat × Bool)} {b : Bool} (h : EqFs P d w xs ys plan b) : ∀ {fs : List Field}, fs.map (fun f => (f.type, f.offset, f.name == "_")) = plan → (Op.eqFields d xs.toArray ys.toArray fs).run P w = .ok b w := by
  have key : ∀ {f : Field} {fs : List Field} {t : TypeId} {off : Nat} {a b : Value} {r : Bool}, (f.type, f.offset, f.name == "_") = (t, off, false) → (part t xs.toArray off).run P w = .ok a w → (part t ys.toArray off).run P w = .ok b w → (Op.equalIn d t a b).run P w = .ok r w →
      (Op.eqFields d xs.toArray ys.toArray (f :: fs)).run P w = if r then (Op.eqFields d xs.toArray ys.toArray fs).run P w else .ok false w := by
    intro f fs t off a b r he h1 h2 h3
    simp only [Prod.mk.injEq] at he
    obtain ⟨rfl, rfl, hn⟩ := he
    have hn' : f.name ≠ "_" := by simpa using hn
    simp only [Op.eqFields, hn', ne_eq, not_false_eq_true, if_true, Sem.run_bind, h1, h2, h3, Result.andThen_ok]
    cases r <;> simp
  induction h with
  | nil =>
    intro fs hfs
    simp only [List.map_eq_nil_iff] at hfs
    subst hfs; simp [Op.eqFields]
  | last h1 h2 h3 =>
    intro fs hfs
    cases fs with
    | nil => simp at hfs
    | cons f fs =>
      simp only [List.map_cons, List.cons.injEq, List.map_eq_nil_iff] at hfs
      obtain ⟨hf, rfl⟩ := hfs
      rw [key hf h1 h2 h3]
      split
      · rename_i hr; simp [Op.eqFields, hr]
      · rename_i hr; simp at hr; rw [hr]
  | @cons t off rest a b r s h1 h2 h3 _ ih =>
    intro fs hfs
    cases fs with
    | nil => simp at hfs
    | cons f fs =>
      simp only [List.map_cons, List.cons.injEq] at hfs
      rw [key hfs.1 h1 h2 h3]
      cases r
      · simp
      · simp [ih hfs.2]
theorem run_eqStruct {P : Program} {d : Nat} {w : World} {t : TypeId} {xs ys : List Value} {plan : List (TypeId × Nat × Bool)} {b : Bool} (ht : P.underlying t = some (.struct (P.fieldsOf t))) (hp : P.stoodInHeld t = false)
    (hf : (P.fieldsOf t).toList.map (fun f => (f.type, f.offset, f.name == "_")) = plan) (h : EqFs P d w xs ys plan b) : (Op.equalIn (d + 1) t (.agg xs.toArray) (.agg ys.toArray)).run P w = .ok b w := by
  rw [run_equalIn_struct w d t _ _ ht hp]
  exact run_eqFs h hf
abbrev Prs := List (Int × Int)
structure PairsK (F : Know) (A : Option Addr) (n : Nat) (es : Prs) : Prop where
  len : n = es.length
  at_ : ∀ (i : Nat) (e : Int × Int), es[i]? = some e → ∃ a, A = some a ∧ F (a.add (i * 2)) = some (.int .i64 e.1) ∧ F (a.add (i * 2 + 1)) = some (.int .i64 e.2)
  rng : ∀ (i : Nat) (h : i < es.length), -9223372036854775808 ≤ es[i].1 ∧ es[i].1 ≤ 9223372036854775807 ∧ -9223372036854775808 ≤ es[i].2 ∧ es[i].2 ≤ 9223372036854775807
theorem PairsK.some {F : Know} {A : Option Addr} {n : Nat} {es : Prs} (h : PairsK F A n es) {i : Nat} (hi : i < es.length) : ∃ a, A = Option.some a := by
  obtain ⟨a, ha, _⟩ := h.at_ i es[i] (List.getElem?_eq_getElem hi)
  exact ⟨a, ha⟩
theorem PairsK.cells {F : Know} {a : Addr} {n : Nat} {es : Prs} (h : PairsK F (Option.some a) n es) {i : Nat} (hi : i < es.length) : ∀ j, j < 2 → F ((a.add (((i : Int)).toNat * 2)).add j) = [Value.int .i64 es[i].1, .int .i64 es[i].2][j]? := by
  intro j hj
  obtain ⟨b, hb, h1, h2⟩ := h.at_ i es[i] (List.getElem?_eq_getElem hi)
  cases hb
  rw [add_add, show ((i : Int)).toNat = i from by omega]
  match j, hj with
  | 0, _ => simpa using h1
  | 1, _ => simpa using h2
def cellsP (es : Prs) : List Value := es.flatMap fun e => [.int .i64 e.1, .int .i64 e.2]
theorem intsK_lit {xs : List Int} {kd : IntKind} {F' : Know} {p : Nat} (hr : ∀ (i : Nat) (h : i < xs.length), kd.min ≤ xs[i] ∧ xs[i] ≤ kd.max) (hF : ∀ k u, (xs.map (Value.int kd))[k]? = some u → F' ⟨p, k, none⟩ = some u) : IntsK F' kd (Option.some ⟨p, 0, none⟩) xs.length xs :=
  ⟨rfl, fun i x hx => ⟨_, rfl, by rw [add_mk, Nat.zero_add]; exact hF i _ (by simp [hx])⟩, hr⟩
end Go.Eng

/-
  The engine, part 11: an `extract` that is unordered with a later operation is taken ahead of it.
-/
namespace Go.Eng
open Go
section
variable {P : Program} {md : Region.Mode} {ops : Array Oper} {Q : Exit → Act → World → Prop}
def force (ops : Array Oper) (i j : Nat) : Array Oper := ops.modify j fun o => { o with after := o.after.push ⟨i, .data⟩ }
theorem force_get {i j k : Nat} : (force ops i j)[k]? = (ops[k]?).map fun o => if j = k then { o with after := o.after.push ⟨i, .data⟩ } else o := by
  rw [force, Array.getElem?_modify]
  split <;> simp
theorem force_dst {i j k : Nat} : ((force ops i j)[k]?).bind (·.dst) = (ops[k]?).bind (·.dst) := by
  rw [force_get]
  cases ops[k]? with
  | none => rfl
  | some o => simp only [Option.map_some, Option.bind_some]; split <;> rfl
theorem force_yielded {i j : Nat} {t : Array Value} : yielded (force ops i j) t = yielded ops t := by
  funext k
  unfold yielded
  rw [force_dst]
theorem force_wpOp {i j k : Nat} {K : Act → World → Prop} {a : Act} {w : World} : wpOpIn (FR none) 0 P (force ops i j) Q k K a w = wpOpIn (FR none) 0 P ops Q k K a w := by
  unfold wpOpIn
  rw [force_get, force_yielded]
  cases ops[k]? with
  | none => rfl
  | some o =>
    simp only [Option.map_some]
    split <;> rfl
def noPanic (Q : Exit → Act → World → Prop) : Exit → Act → World → Prop
  | .panic _, _, _ => False
  | e, a, w => Q e a w
theorem upon_noPanic {o : Oper} {a : Act} {K : Act → World → Prop} {r : Result Next} (h : o.uponIn (FR none) 0 P a K (noPanic Q) r) : o.uponIn (FR none) 0 P a K Q r := by
  cases r with
  | ok n w' =>
    cases n <;> simp only [Oper.uponIn] at h ⊢ <;> try exact h
    case enter f args =>
      refine ⟨h.1, CallsIn.mono h.2 fun e w'' he => ?_⟩
      cases e with
      | returned u => exact he
      | panicked c => exact he.elim
      | outgrown => exact he
    case round l f tmps asg body =>
      refine ⟨h.1, RoundIn.mono h.2 fun e w'' he => ?_⟩
      cases e with
      | returned u => exact he
      | panicked c => exact he.elim
      | outgrown => exact he
  | halt x w' =>
    cases x <;> simp only [Oper.uponIn] at h ⊢ <;> try exact h
    case panic u => exact h.elim
theorem wpOp_noPanic {k : Nat} {K : Act → World → Prop} {a : Act} {w : World} (h : wpOpIn (FR none) 0 P ops (noPanic Q) k K a w) : wpOpIn (FR none) 0 P ops Q k K a w := by
  unfold wpOpIn at *
  cases ho : ops[k]? with
  | none => rw [ho] at h; exact h
  | some o =>
    rw [ho] at h
    simp only at h ⊢
    split
    · rename_i hw
      rw [if_pos hw] at h
      exact ⟨h.1, upon_noPanic h.2⟩
    · rename_i hw
      rw [if_neg hw] at h
      exact h
theorem wpAny_noPanic : ∀ (fuel : Nat) (listed : Array Bool) (a : Act) (w : World), wpAnyIn (FR none) 0 P md ops (noPanic Q) fuel listed a w → wpAnyIn (FR none) 0 P md ops Q fuel listed a w
  | 0, _, _, _, h => h
  | fuel + 1, _, _, _, h => ⟨h.1, fun i hi => wpOpIn_mono (fun a w h => wpAny_noPanic fuel _ a w h) (wpOp_noPanic (h.2 i hi))⟩
def isCalm (o : Oper) : Prop := (∃ t n, o.op = .extract t n) ∨ ∃ x, o.op = .move x
theorem extract_shape {o : Oper} (a : Act) (ho : isCalm o) : (∃ v, execOp a.eval o = .pure (.value v)) ∨ ∃ s, execOp a.eval o = .halt s ∧ ∀ u, s ≠ .panic u := by
  rcases ho with ⟨t, n, ho⟩ | ⟨x, ho⟩
  rotate_left
  · exact .inl ⟨a.eval x, by simp only [execOp, ho]; rfl⟩
  simp only [execOp, ho, Instr.extract]
  split
  · split
    · exact .inl ⟨_, rfl⟩
    · exact .inr ⟨_, rfl, by simp⟩
  · exact .inr ⟨_, rfl, by simp⟩
theorem extract_yields {o : Oper} {i : Nat} {K : Act → World → Prop} {a : Act} {w : World} (hi : ops[i]? = some o) (ho : isCalm o)
    (h : wpOpIn (FR none) 0 P ops (noPanic Q) i K a w) : ∃ v, YieldsFenced P ops o v a ∧ K (a.put o.dst v) w := by
  unfold wpOpIn at h
  rw [hi] at h
  simp only at h
  split at h
  · rename_i hw
    rcases extract_shape a ho with ⟨v, hv⟩ | ⟨s, hs, hp⟩
    · refine ⟨v, ⟨.inl ⟨hw, fun w => by rw [hv]; rfl⟩, fun w => by unfold Oper.about; rcases ho with ⟨t, n, ho⟩ | ⟨x, ho⟩ <;> rw [ho]⟩, ?_⟩
      have h := h.2
      rw [show (FR none).round = none from rfl, Oper.semAt_none, hv] at h; exact h
    · have h := h.2
      rw [show (FR none).round = none from rfl, Oper.semAt_none, hs] at h
      cases s <;> first | exact h.elim | exact (hp _ rfl).elim
  · rename_i hw
    exact ⟨undef, ⟨.inr ⟨by simpa using hw, rfl⟩, fun w => by unfold Oper.about; rcases ho with ⟨t, n, ho⟩ | ⟨x, ho⟩ <;> rw [ho]⟩, h.2⟩
def forceB (md : Region.Mode) (ops : Array Oper) (i j : Nat) : Bool :=
  Region.noSelect ops && i != j && match ops[i]?, ops[j]? with
  | some oi, some oj => (match oi.op with | .extract .. => true | .move _ => true | _ => false) &&
      oi.after.all (fun e => !Region.binds md e || oj.after.any fun e' => Region.binds md e' && e'.on == e.on) &&
      (List.range ops.size).all fun k => k == i || oi.after.any (fun e => Region.binds md e && e.on == k) || match ops[k]? with
        | some o => o.after.any (fun e => Region.binds md e && e.on == i) || oi.apart ops o
        | none => true
  | _, _ => false
theorem wpAny_force {i j : Nat} (hB : forceB md ops i j = true) : ∀ (fuel : Nat) (listed : Array Bool) (a : Act) (w : World), ops.size ≤ listed.size → wpAnyIn (FR none) 0 P md (force ops i j) (noPanic Q) fuel listed a w → wpAnyIn (FR none) 0 P md ops (noPanic Q) fuel listed a w := by
  unfold forceB at hB
  rw [Bool.and_eq_true, Bool.and_eq_true] at hB
  obtain ⟨⟨hns, hne⟩, hB⟩ := hB
  have hne : i ≠ j := by simpa using hne
  split at hB
  case h_2 => cases hB
  rename_i oi oj hi hj
  rw [Bool.and_eq_true, Bool.and_eq_true] at hB
  obtain ⟨⟨hx, hd⟩, hf⟩ := hB
  have ho : isCalm oi := by
    split at hx
    · rename_i t n h; exact .inl ⟨t, n, h⟩
    · rename_i x h; exact .inr ⟨x, h⟩
    · cases hx
  have hd : ∀ e ∈ oi.after, Region.binds md e = true → ∃ e' ∈ oj.after, Region.binds md e' = true ∧ e'.on = e.on := by
    intro e he hb
    have := Array.all_eq_true_iff_forall_mem.1 hd e he
    simp only [hb, Bool.not_true, Bool.false_or] at this
    obtain ⟨e', he', h⟩ := Array.any_eq_true'.1 this
    simp only [Bool.and_eq_true, beq_iff_eq] at h
    exact ⟨e', he', h⟩
  have hfi : (force ops i j)[i]? = some oi := by rw [force_get, hi]; simp [Ne.symm hne]
  -- readiness
  have hri : ∀ listed, i ∈ Region.ready md ops listed → i ∈ Region.ready md (force ops i j) listed := by
    intro listed h
    rw [mem_ready] at *
    obtain ⟨h0, o, ho', hall⟩ := h
    rw [hi] at ho'; cases ho'
    exact ⟨h0, oi, hfi, hall⟩
  have hrk : ∀ listed : Array Bool, ops.size ≤ listed.size → i ∉ Region.ready md ops listed → ∀ k ∈ Region.ready md ops listed, k ∈ Region.ready md (force ops i j) listed := by
    intro listed hsz hn k h
    rw [mem_ready] at h ⊢
    obtain ⟨h0, o, ho', hall⟩ := h
    refine ⟨h0, if j = k then { o with after := o.after.push ⟨i, .data⟩ } else o, by rw [force_get, ho']; rfl, ?_⟩
    by_cases hjk : j = k
    · subst hjk
      rw [hj] at ho'; cases ho'
      rw [if_pos rfl]
      intro e he hb
      rcases Array.mem_push.1 he with he | rfl
      · exact hall e he hb
      · refine Classical.byContradiction fun hc => hn ?_
        have hu : listed.getD i true = false := by
          rcases Nat.lt_or_ge i listed.size with h' | h'
          · simp [h'] at hc ⊢; exact hc
          · have := (Array.getElem?_eq_some_iff.1 hi).1; omega
        refine mem_ready.2 ⟨hu, oi, hi, fun e he hb => ?_⟩
        obtain ⟨e', he', hb', hon⟩ := hd e he hb
        rw [← hon]; exact hall e' he' hb'
    · rw [if_neg hjk]; exact hall
  intro fuel
  induction fuel with
  | zero =>
    intro listed a w hsz h
    refine ⟨?_, h.2⟩
    have h1 := h.1
    refine List.eq_nil_iff_forall_not_mem.2 fun k hk => ?_
    by_cases hir : i ∈ Region.ready md ops listed
    · have := hri _ hir; rw [h1] at this; cases this
    · have := hrk _ hsz hir k hk; rw [h1] at this; cases this
  | succ fuel ih =>
    intro listed a w hsz h
    by_cases hir : i ∈ Region.ready md ops listed
    · have h1 := h.2 i (hri _ hir)
      rw [force_wpOp] at h1
      obtain ⟨v, hy, hK⟩ := extract_yields hi ho h1
      refine wpAnyIn_first rfl hi (Region.noSelect_spec hns) (fun _ _ _ h => h.elim) fuel listed a w ?_ hir hy (ih _ _ _ (by simpa using hsz) hK)
      intro k ok hk hki hun hno
      have h2 := (List.all_eq_true.1 hf) k (List.mem_range.2 (Array.getElem?_eq_some_iff.1 hk).1)
      simp only [hk, Bool.or_eq_true, beq_iff_eq, hki, false_or] at h2
      rcases h2 with h2 | h2 | h2
      · obtain ⟨e, he, hb⟩ := Array.any_eq_true'.1 h2
        simp only [Bool.and_eq_true, beq_iff_eq] at hb
        obtain ⟨_, o, ho', hall⟩ := mem_ready.1 hir
        rw [hi] at ho'; cases ho'
        have := hall e he hb.1
        rw [hb.2] at this
        rcases Nat.lt_or_ge k listed.size with h' | h'
        · simp [h'] at this hun; rw [hun] at this; cases this
        · simp [Array.getElem?_eq_none h'] at this
      · obtain ⟨e, he, hb⟩ := Array.any_eq_true'.1 h2
        simp only [Bool.and_eq_true, beq_iff_eq] at hb
        exact absurd hb.2 (hno e he hb.1)
      · exact h2
    · refine ⟨fun h0 => ?_, fun k hk => ?_⟩
      · have h3 : Region.ready md (force ops i j) listed = [] := by
          refine List.eq_nil_iff_forall_not_mem.2 fun k hk => ?_
          have : k ∈ Region.ready md ops listed := by
            rw [mem_ready] at hk ⊢
            obtain ⟨g0, o, go, gall⟩ := hk
            rw [force_get] at go
            cases hk' : ops[k]? with
            | none => rw [hk'] at go; cases go
            | some o' =>
              rw [hk'] at go
              simp only [Option.map_some, Option.some.injEq] at go
              refine ⟨g0, o', rfl, fun e he hb => gall e ?_ hb⟩
              rw [← go]
              split
              · exact Array.mem_push.2 (.inl he)
              · exact he
          rw [h0] at this; cases this
        exact h.1 h3
      · have h1 := h.2 k (hrk _ hsz hir k hk)
        rw [force_wpOp] at h1
        exact wpOpIn_mono (fun a w h => ih _ _ _ (by simpa using hsz) h) h1
end
theorem force_size {ops : Array Oper} {i j : Nat} : (force ops i j).size = ops.size := by simp [force]
theorem r_force {c : Cx} {ops : Array Oper} {Q : Exit → Act → World → Prop} {k : Nat} {env : Env} {F : Know} {own : Own} (i j : Nat) (hB : forceB .any ops i j = true)
    (h : R c true (force ops i j) (noPanic Q) k env F own) (hro : c.ro = none := by rfl) : R c true ops Q k env F own := fun a w hd => by
  have h1 := h a w hd
  simp only [RestOf, force_size, hro] at h1
  simp only [RestOf, hro]
  exact wpAny_noPanic _ _ _ _ (wpAny_force hB _ _ _ _ (by rw [lk_size]; exact Nat.le_refl _) h1)
theorem np {c : Cx} {Q : Exit → Act → World → Prop} {env : Env} {F : Know} {own : Own} (h : TK c env F own (Q .normal)) : TK c env F own (noPanic Q .normal) := h
end Go.Eng
