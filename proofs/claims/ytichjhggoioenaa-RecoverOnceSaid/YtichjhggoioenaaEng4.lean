/-
  The engine, part 4: memory, calls, the beginning and the end of a function.
-/
import Derived.Test.YtichjhggoioenaaEng3
namespace Go.Eng
open Go

section
variable {c : Cx} {env : Env} {F : Know} {own : Own} {Q : Exit → Act → World → Prop}
variable {d : Option Tmp} {ty : TypeId} {ps : String} {af : Array Edge} {g : Option (Nat × Bool)}

theorem add_mk (p k n : Nat) : (⟨p, k, none⟩ : Addr).add n = ⟨p, k + n, none⟩ := by
  unfold Addr.add; split
  · simp_all
  · rfl
theorem add_add (a : Addr) (m n : Nat) : (a.add m).add n = a.add (m + n) := by
  unfold Addr.add
  by_cases hm : m = 0
  · simp [hm]
  · by_cases hn : n = 0
    · simp [hn]
    · simp [hm, hn, Nat.add_assoc]
theorem add_block (a : Addr) (n : Nat) : (a.add n).block = a.block := by unfold Addr.add; split <;> rfl

theorem cell_of {w : World} {p k : Nat} {cs : List Value} {t : TypeId} {fr : Nat × Nat} (h : w.heap[p]? = some (.cells cs.toArray t fr)) : w.cell? ⟨p, k, none⟩ = cs[k]? := by
  simp [World.cell?, h]

theorem run_load_some {P : Program} {w : World} {a : Addr} {v : Value} (h : w.cell? a = some v) : (load a).run P w = .ok v w := by
  simp [load, Sem.run, h]

theorem run_loadCellsFrom {P : Program} {w : World} {a : Addr} : ∀ (n i : Nat) (acc : Array Value) (r : List Value), r.length = n → (∀ j, j < n → w.cell? (a.add (i + j)) = r[j]?) →
    (loadCellsFrom a i n acc).run P w = .ok (acc ++ r.toArray) w := by
  intro n
  induction n with
  | zero => intro i acc r hr _; have : r = [] := List.eq_nil_of_length_eq_zero hr; subst this; simp [loadCellsFrom]
  | succ n ih =>
    intro i acc r hr h
    cases r with
    | nil => simp at hr
    | cons v r =>
      have h0 := h 0 (by omega)
      simp only [Nat.add_zero, List.getElem?_cons_zero] at h0
      simp only [loadCellsFrom, Sem.run_bind, run_load_some h0, Result.andThen_ok]
      rw [ih (i + 1) (acc.push v) r (by simpa using hr) (fun j hj => by
        have := h (j + 1) (by omega)
        simpa [Nat.add_assoc, Nat.add_comm 1 j] using this)]
      simp

theorem run_loadCells {P : Program} {w : World} {a : Addr} {n : Nat} {r : List Value} (hr : r.length = n) (h : ∀ j, j < n → w.cell? (a.add j) = r[j]?) : (loadCells a n).run P w = .ok r.toArray w := by
  unfold loadCells
  rw [run_loadCellsFrom n 0 #[] r hr (fun j hj => by rw [Nat.zero_add]; exact h j hj)]
  simp

theorem run_loadAt1 {P : Program} {w : World} {t : TypeId} {a : Addr} {v : Value} (ht : TOne P t) (h : w.cell? a = some v) : (Instr.loadAt t (.pointer (some a))).run P w = .ok v w := by
  have := run_load_some (P := P) h
  simp only [Instr.loadAt, Instr.sureAddr, loadVar, Sem.run_bind, Sem.run_pure, Result.andThen_ok, ht.agg, Bool.false_eq_true, if_false, this]
theorem run_loadAtN {P : Program} {w : World} {t : TypeId} {n : Nat} {a : Addr} {r : List Value} (ht : TAgg P t n) (hr : r.length = n) (h : ∀ j, j < n → w.cell? (a.add j) = r[j]?) :
    (Instr.loadAt t (.pointer (some a))).run P w = .ok (.agg r.toArray) w := by
  simp [Instr.loadAt, Instr.sureAddr, loadVar, ht.agg, ht.size, run_loadCells hr h]

/-- Loads from one's own blocks. -/
theorem det_load1 {t : TypeId} {x : Operand} {A : Addr} {p k : Nat} {cs : List Value} {T : TypeId} {fr : Nat × Nat} {v : Value} (ht : TOne c.P t) (hx : Env.ev env x = some (.pointer (some A))) (hA : A = ⟨p, k, none⟩)
    (hm : (p, Obj.cells cs.toArray T fr) ∈ own) (hv : nthV cs k = some v) : Det c F own env ⟨d, .load t x, ty, ps, af, g⟩ v :=
  det_of fun a ha w hw => by
    subst hA
    rw [nthV_eq] at hv
    have h1 : w.cell? ⟨p, k, none⟩ = some v := by rw [cell_of (hw.own _ hm)]; exact hv
    simp [execOp, ha.eval hx, run_loadAt1 ht h1]
theorem det_loadN {t : TypeId} {x : Operand} {A : Addr} {p k n : Nat} {cs r : List Value} {T : TypeId} {fr : Nat × Nat} (ht : TAgg c.P t n) (hx : Env.ev env x = some (.pointer (some A))) (hA : A = ⟨p, k, none⟩)
    (hm : (p, Obj.cells cs.toArray T fr) ∈ own) (hv : cutV k n cs = some r) : Det c F own env ⟨d, .load t x, ty, ps, af, g⟩ (.agg r.toArray) :=
  det_of fun a ha w hw => by
    subst hA
    have h1 : ∀ j, j < n → w.cell? ((⟨p, k, none⟩ : Addr).add j) = r[j]? := fun j hj => by
      rw [add_mk, cell_of (hw.own _ hm)]
      exact (cutV_get hv hj).1
    have hl : r.length = n := by
      rw [cutV_eq hv]
      rcases cutV_some hv with h | h
      · simp; omega
      · subst h; simp
    simp [execOp, ha.eval hx, run_loadAtN ht hl h1]
/-- Loads of what is known. -/
theorem det_loadK {t : TypeId} {x : Operand} {A : Addr} {v : Value} (ht : TOne c.P t) (hx : Env.ev env x = some (.pointer (some A))) (hF : F A = some v) : Det c F own env ⟨d, .load t x, ty, ps, af, g⟩ v :=
  det_of fun a ha w hw => by simp [execOp, ha.eval hx, run_loadAt1 ht (hw.know _ _ hF)]
theorem det_loadKN {t : TypeId} {n : Nat} {x : Operand} {A : Addr} {r : List Value} (ht : TAgg c.P t n) (hx : Env.ev env x = some (.pointer (some A))) (hr : r.length = n) (hF : ∀ j, j < n → F (A.add j) = r[j]?) : Det c F own env ⟨d, .load t x, ty, ps, af, g⟩ (.agg r.toArray) :=
  det_of fun a ha w hw => by
    have h1 : ∀ j, j < n → w.cell? (A.add j) = r[j]? := fun j hj => by
      have := hF j hj
      rw [List.getElem?_eq_getElem (by omega)] at this ⊢
      exact hw.know _ _ this
    simp [execOp, ha.eval hx, run_loadAtN ht hr h1]

/-! ### Slices -/

structure SliceOf (P : Program) (t : TypeId) (e : TypeId) (sz : Nat) : Prop where
  ud : P.underlying t = some (.slice e)
  size : ∀ w, (sizeOf e).run P w = .ok sz w

theorem det_indexAddr {t e : TypeId} {sz : Nat} {x y : Operand} {A : Addr} {n cap : Nat} {k : IntKind} {i : Int} (ht : SliceOf c.P t e sz) (hx : Env.ev env x = some (.slice (some A) n cap)) (hy : Env.ev env y = some (.int k i)) (hi : 0 ≤ i ∧ i < n) :
    Det c F own env ⟨d, .indexAddr t x y, ty, ps, af, g⟩ (.pointer (some (A.add (i.toNat * sz)))) :=
  det_of fun a ha w _ => by
    simp [execOp, ha.eval hx, ha.eval hy, Instr.indexAt, asIntOf, run_underlying ht.ud, hi, ht.size]
theorem det_indexAddrA {t e : TypeId} {sz len : Nat} {x y : Operand} {A : Addr} {k : IntKind} {i : Int} (ht : ArrayOf c.P t len e sz) (hx : Env.ev env x = some (.pointer (some A))) (hy : Env.ev env y = some (.int k i)) (hi : 0 ≤ i ∧ i < len) :
    Det c F own env ⟨d, .indexAddr t x y, ty, ps, af, g⟩ (.pointer (some (A.add (i.toNat * sz)))) :=
  det_of fun a ha w _ => by
    simp [execOp, ha.eval hx, ha.eval hy, Instr.indexAt, Instr.sureAddr, asIntOf, run_underlying ht.ud, hi, ht.size]

theorem run_resolve_builtin {P : Program} (w : World) (ρ : Operand → Value) (b : Builtin) (args : Array Operand) (ts : Array TypeId) (t : TypeId) :
    ∃ cs, (resolve ρ { callee := .builtin b, args := args, argTypes := ts } t).run P w = .ok { target := .builtin b ts t cs, args := args.map ρ } w := by
  simp only [resolve, Sem.run_pure]
  exact ⟨_, rfl⟩

theorem run_builtin {P : Program} {w w' : World} {ρ : Operand → Value} {b : Builtin} {args : Array Operand} {ts : Array TypeId} {nx : Next} (h : ∀ cs, (builtin b ts ty cs (args.map ρ)).run P w = .ok nx w') :
    (execOp ρ ⟨d, .call { callee := .builtin b, args := args, argTypes := ts }, ty, ps, af, g⟩).run P w = .ok nx w' := by
  obtain ⟨cs, hr⟩ := run_resolve_builtin (P := P) w ρ b args ts ty
  simp only [execOp, Sem.run_bind, hr, Result.andThen_ok, invoke]
  exact h cs

theorem det_lenS {t e : TypeId} {sz : Nat} {x : Operand} {A : Option Addr} {n cap : Nat} (ht : SliceOf c.P t e sz) (hx : Env.ev env x = some (.slice A n cap)) :
    Det c F own env ⟨d, .call { callee := .builtin .len, args := #[x], argTypes := #[t] }, ty, ps, af, g⟩ (.int .i64 n) :=
  det_of fun a ha w _ => by
    exact run_builtin fun cs => by simp [builtin, Builtin.len_, run_underlying ht.ud, ha.eval hx, goInt]
theorem det_capS {t e : TypeId} {sz : Nat} {x : Operand} {A : Option Addr} {n cap : Nat} (ht : SliceOf c.P t e sz) (hx : Env.ev env x = some (.slice A n cap)) :
    Det c F own env ⟨d, .call { callee := .builtin .cap, args := #[x], argTypes := #[t] }, ty, ps, af, g⟩ (.int .i64 cap) :=
  det_of fun a ha w _ => by
    exact run_builtin fun cs => by simp [builtin, Builtin.cap_, run_underlying ht.ud, ha.eval hx, goInt]
theorem det_min2 {x y : Operand} {k : IntKind} {m n : Int} {ts : Array TypeId} (hx : Env.ev env x = some (.int k m)) (hy : Env.ev env y = some (.int k n)) :
    Det c F own env ⟨d, .call { callee := .builtin .min, args := #[x, y], argTypes := ts }, ty, ps, af, g⟩ (.int k (min m n)) :=
  det_of fun a ha w _ => by
    have e : (if n < m then n else m) = min m n := by rw [Int.min_def]; split <;> split <;> omega
    exact run_builtin fun cs => by simp [builtin, Builtin.min_, Builtin.min2, ha.eval hx, ha.eval hy, e]
theorem det_max2 {x y : Operand} {k : IntKind} {m n : Int} {ts : Array TypeId} (hx : Env.ev env x = some (.int k m)) (hy : Env.ev env y = some (.int k n)) :
    Det c F own env ⟨d, .call { callee := .builtin .max, args := #[x, y], argTypes := ts }, ty, ps, af, g⟩ (.int k (max m n)) :=
  det_of fun a ha w _ => by
    have e : (if m < n then n else m) = max m n := by rw [Int.max_def]; split <;> split <;> omega
    exact run_builtin fun cs => by simp [builtin, Builtin.max_, Builtin.max2, ha.eval hx, ha.eval hy, e]

/-- 'x[lo:hi]', 'x[:hi]', 'x[lo:]', 'x[lo:hi:mx]': the bounds as numbers. -/
def bndOf (env : List (Nat × Value)) : Option Operand → Option (Option Int)
  | none => some none
  | some o => match Env.ev env o with
    | some (.int .i64 i) => some (some i)
    | _ => none

theorem bnd_map {n : Nat} {df : List Deferred} {env : Env} {a : Act} (ha : EnvOk n df env a) {o : Option Operand} {i : Option Int} (h : bndOf env o = some i) : o.map a.eval = i.map fun i => .int .i64 i := by
  cases o with
  | none => simp [bndOf] at h; subst h; rfl
  | some o =>
    simp only [bndOf] at h
    split at h
    · rename_i j hj; simp at h; subst h; simp [ha.eval hj]
    · cases h

theorem run_sliceBound {P : Program} {w : World} {i : Int} {y : Nat} {code : BoundsCode} (h : 0 ≤ i ∧ i ≤ y) : (Instr.sliceBound (.int .i64 i) y code).run P w = .ok i.toNat w := by
  simp [Instr.sliceBound, asIntOf, h]

theorem run_sliceBounds {P : Program} {w : World} {n cap : Nat} {l h m : Option Int} (hmh : m.isSome = true → h.isSome = true)
    (b : 0 ≤ l.getD 0 ∧ l.getD 0 ≤ h.getD n ∧ h.getD n ≤ m.getD cap ∧ m.getD cap ≤ cap) :
    (Instr.sliceBounds true n cap (l.map fun i => .int .i64 i) (h.map fun i => .int .i64 i) (m.map fun i => .int .i64 i)).run P w = .ok ((l.getD 0).toNat, (h.getD n).toNat, (m.getD cap).toNat) w := by
  obtain ⟨b1, b2, b3, b4⟩ := b
  have e1 : ∀ k : Nat, ((k : Int)).toNat = k := fun k => by omega
  cases m with
  | none =>
    cases h with
    | none =>
      cases l with
      | none => simp [Instr.sliceBounds]
      | some l =>
        simp only [Option.getD_none, Option.getD_some] at b1 b2
        simp [Instr.sliceBounds, run_sliceBound ⟨b1, b2⟩]
    | some h =>
      cases l with
      | none =>
        simp only [Option.getD_none, Option.getD_some] at b1 b2 b3
        simp [Instr.sliceBounds, run_sliceBound ⟨b2, b3⟩]
      | some l =>
        simp only [Option.getD_none, Option.getD_some] at b1 b2 b3
        have h1 := run_sliceBound (P := P) (w := w) (i := l) (y := h.toNat) (code := .sliceB) ⟨b1, by omega⟩
        have h2 := run_sliceBound (P := P) (w := w) (i := h) (y := cap) (code := .sliceAcap) ⟨by omega, b3⟩
        simp [Instr.sliceBounds, h1, h2]
  | some m =>
    cases h with
    | none => simp at hmh
    | some h =>
      cases l with
      | none =>
        simp only [Option.getD_none, Option.getD_some] at b1 b2 b3 b4
        have h1 := run_sliceBound (P := P) (w := w) (i := m) (y := cap) (code := .slice3Acap) ⟨by omega, b4⟩
        have h2 := run_sliceBound (P := P) (w := w) (i := h) (y := m.toNat) (code := .slice3B) ⟨by omega, by omega⟩
        simp [Instr.sliceBounds, h1, h2]
      | some l =>
        simp only [Option.getD_some] at b1 b2 b3 b4
        have h1 := run_sliceBound (P := P) (w := w) (i := m) (y := cap) (code := .slice3Acap) ⟨by omega, b4⟩
        have h2 := run_sliceBound (P := P) (w := w) (i := h) (y := m.toNat) (code := .slice3B) ⟨by omega, by omega⟩
        have h3 := run_sliceBound (P := P) (w := w) (i := l) (y := h.toNat) (code := .slice3C) ⟨b1, by omega⟩
        simp [Instr.sliceBounds, h1, h2, h3]

theorem det_slice {t e : TypeId} {sz : Nat} {x : Operand} {lo hi mx : Option Operand} {A : Option Addr} {n cap : Nat} {l h m : Option Int} (ht : SliceOf c.P t e sz) (hx : Env.ev env x = some (.slice A n cap))
    (hl : bndOf env lo = some l) (hh : bndOf env hi = some h) (hmx : bndOf env mx = some m) (hmh : m.isSome = true → h.isSome = true)
    (b : 0 ≤ l.getD 0 ∧ l.getD 0 ≤ h.getD n ∧ h.getD n ≤ m.getD cap ∧ m.getD cap ≤ cap) :
    Det c F own env ⟨d, .slice t x lo hi mx, ty, ps, af, g⟩ (.slice (if (m.getD cap).toNat = (l.getD 0).toNat then A else A.map (·.add ((l.getD 0).toNat * sz))) ((h.getD n).toNat - (l.getD 0).toNat) ((m.getD cap).toNat - (l.getD 0).toNat)) :=
  det_of fun a ha w _ => by
    simp only [execOp, ha.eval hx, bnd_map ha hl, bnd_map ha hh, bnd_map ha hmx]
    simp [Instr.sliceAt, run_underlying ht.ud, Instr.slice, run_sliceBounds hmh b, ht.size]

/-! ### Function values, pointers -/

theorem det_makeFunc {fn : Fn} {first captured : List Operand} {vs us : List Value} (h1 : first.mapM (Env.ev env) = some vs) (h2 : captured.mapM (Env.ev env) = some us) :
    Det c F own env ⟨d, .makeFunc fn first.toArray captured.toArray, ty, ps, af, g⟩ (.func fn vs.toArray us.toArray) :=
  det_of fun a ha w _ => by
    have key : ∀ (l : List Operand) (vs : List Value), l.mapM (Env.ev env) = some vs → l.toArray.map a.eval = vs.toArray := by
      intro l
      induction l with
      | nil => intro vs h; simp at h; simp [h]
      | cons p r ih =>
        intro vs h
        simp only [List.mapM_cons, Option.bind_eq_bind, Option.bind_eq_some_iff, Option.pure_def, Option.some.injEq] at h
        obtain ⟨u, hu, r', hr', rfl⟩ := h
        have := ih r' hr'
        simp only [List.map_toArray, List.map_cons] at this ⊢
        simp [ha.eval hu] at this ⊢
        exact this
    simp [execOp, key _ _ h1, key _ _ h2, Instr.makeFunc]

theorem det_nilCheck {x : Operand} {A : Addr} (hx : Env.ev env x = some (.pointer (some A))) : Det c F own env ⟨d, .nilCheck x, ty, ps, af, g⟩ (.pointer (some A)) :=
  det_of fun a ha w _ => by simp [execOp, ha.eval hx]
theorem det_nilCheckF {x : Operand} {f : FuncId} {u v : Array Value} (hx : Env.ev env x = some (.func (.func f) u v)) : Det c F own env ⟨d, .nilCheck x, ty, ps, af, g⟩ (.func (.func f) u v) :=
  det_of fun a ha w _ => by simp [execOp, ha.eval hx]

/-! ### New blocks -/

structure ZeroOf (P : Program) (t : TypeId) (z : List Value) : Prop where
  zero : ∀ w, ∃ v, (zeroValue t).run P w = .ok v w ∧ v.cells = z.toArray

theorem run_newVar {P : Program} {w : World} {t : TypeId} {v : Value} : (newVar t v).run P w = .ok ⟨w.heap.size, 0, none⟩ (w.alloc (.cells v.cells t)) := by
  simp [newVar, newRow]

theorem new_alloc {t : TypeId} {z : List Value} (hz : ZeroOf c.P t z) : New c F own env ⟨d, .alloc t, ty, ps, af, g⟩ (fun p v ob => v = .pointer (some ⟨p, 0, none⟩) ∧ ob = .cells z.toArray t (0, 0)) :=
  fun a ha w hw => by
    obtain ⟨u, hu, hc⟩ := hz.zero w
    refine ⟨_, _, _, ?_, Grew.alloc w (.cells z.toArray t (0, 0)), rfl, rfl⟩
    simp [execOp, Instr.alloc, hu, run_newVar, hc]

def cellsL : Value → List Value
  | .agg cs => cs.toList
  | v => [v]
theorem cellsL_eq (v : Value) : (cellsL v).toArray = v.cells := by cases v <;> simp [cellsL, Value.cells]

theorem new_box1 {t : TypeId} {x : Operand} {v : Value} (hx : Env.ev env x = some v) (hv : v.cells = #[v]) : New c F own env ⟨d, .box t x, ty, ps, af, g⟩ (fun p u ob => u = .pointer (some ⟨p, 0, none⟩) ∧ ob = .cells [v].toArray t (0, 0)) :=
  fun a ha w hw => by
    refine ⟨_, _, _, ?_, Grew.alloc w (.cells #[v] t (0, 0)), rfl, rfl⟩
    simp [execOp, Instr.box, run_newVar, ha.eval hx, hv]
theorem new_boxN {t : TypeId} {x : Operand} {cs : List Value} (hx : Env.ev env x = some (.agg cs.toArray)) : New c F own env ⟨d, .box t x, ty, ps, af, g⟩ (fun p u ob => u = .pointer (some ⟨p, 0, none⟩) ∧ ob = .cells cs.toArray t (0, 0)) :=
  fun a ha w hw => by
    refine ⟨_, _, _, ?_, Grew.alloc w (.cells cs.toArray t (0, 0)), rfl, rfl⟩
    simp [execOp, Instr.box, run_newVar, ha.eval hx, Value.cells]

/-- A slice literal: its cells are shown. -/
theorem new_buildSlice {t e : TypeId} {n : Nat} {parts : List (Nat × Operand)} {vs : List (Nat × Value)} {cs : List Value} (hp : parts.mapM (fun p => (Env.ev env p.2).map fun u => (p.1, u)) = some vs)
    (h : ∀ w, (Instr.buildSlice t n vs.toArray).run c.P w = .ok (.slice (some ⟨w.heap.size, 0, none⟩) n n) (w.alloc (.cells cs.toArray e))) :
    New c F own env ⟨d, .buildSlice t n parts.toArray, ty, ps, af, g⟩ (fun p v ob => v = .slice (some ⟨p, 0, none⟩) n n ∧ ob = .cells cs.toArray e (0, 0)) :=
  fun a ha w hw => by
    have e' : (parts.toArray.map fun (p : Nat × Operand) => (p.1, a.eval p.2)) = vs.toArray := by
      rw [List.map_toArray]
      congr 1
      clear h
      induction parts generalizing vs with
      | nil => simp at hp; simp [hp]
      | cons p r ih =>
        simp only [List.mapM_cons, Option.bind_eq_bind, Option.bind_eq_some_iff, Option.map_eq_some_iff, Option.pure_def, Option.some.injEq] at hp
        obtain ⟨x, ⟨u, hu, rfl⟩, r', hr', rfl⟩ := hp
        simp [ih hr', ha.eval hu]
    refine ⟨_, _, _, ?_, Grew.alloc w (.cells cs.toArray e (0, 0)), rfl, rfl⟩
    simp only [execOp]
    rw [show (fun (x : Nat × Operand) => match x with | (i, x) => (i, a.eval x)) = fun (p : Nat × Operand) => (p.1, a.eval p.2) from rfl, e']
    simp [h]

/-! ### Stores into one's own blocks -/

inductive Upd (p : Nat) (ob ob' : Obj) : Own → Own → Prop
  | head {r : Own} : Upd p ob ob' ((p, ob) :: r) ((p, ob') :: r)
  | tail {x : Nat × Obj} {r r' : Own} : Upd p ob ob' r r' → Upd p ob ob' (x :: r) (x :: r')
  | app {l r r' : Own} : Upd p ob ob' r r' → Upd p ob ob' (l ++ r) (l ++ r')

theorem Upd.mem {p : Nat} {ob ob' : Obj} {r r' : Own} (h : Upd p ob ob' r r') : (p, ob) ∈ r := by
  induction h with
  | head => exact List.mem_cons_self
  | tail _ ih => exact List.mem_cons_of_mem _ ih
  | app _ ih => exact List.mem_append_right _ ih
theorem Upd.ids {p : Nat} {ob ob' : Obj} {r r' : Own} (h : Upd p ob ob' r r') : r'.map (·.1) = r.map (·.1) := by
  induction h with
  | head => rfl
  | tail _ ih => simp [ih]
  | app _ ih => simp [ih]
theorem Upd.new {p : Nat} {ob ob' : Obj} {r r' : Own} (h : Upd p ob ob' r r') (hn : (r.map (·.1)).Nodup) : ∀ x ∈ r', x = (p, ob') ∨ (x ∈ r ∧ x.1 ≠ p) := by
  induction h with
  | @head r =>
    intro x hx
    rcases List.mem_cons.1 hx with rfl | hx
    · exact .inl rfl
    · refine .inr ⟨List.mem_cons_of_mem _ hx, fun e => ?_⟩
      simp only [List.map_cons, List.nodup_cons] at hn
      exact hn.1 (e ▸ List.mem_map_of_mem hx)
  | @tail y r r' h ih =>
    intro x hx
    simp only [List.map_cons, List.nodup_cons] at hn
    rcases List.mem_cons.1 hx with rfl | hx
    · refine .inr ⟨List.mem_cons_self, fun e => hn.1 ?_⟩
      have := List.mem_map_of_mem (f := (·.1)) h.mem
      rw [e]; exact this
    · rcases ih hn.2 x hx with h' | ⟨h1, h2⟩
      · exact .inl h'
      · exact .inr ⟨List.mem_cons_of_mem _ h1, h2⟩
  | @app l r r' h ih =>
    intro x hx
    simp only [List.map_append, List.nodup_append] at hn
    rcases List.mem_append.1 hx with hx | hx
    · refine .inr ⟨List.mem_append_left _ hx, fun e => ?_⟩
      exact hn.2.2 x.1 (List.mem_map_of_mem hx) p (List.mem_map_of_mem (f := (·.1)) h.mem) e
    · rcases ih hn.2.1 x hx with h' | ⟨h1, h2⟩
      · exact .inl h'
      · exact .inr ⟨List.mem_append_right _ h1, h2⟩

/-- A block of the world written anew. -/
def setBlk (w : World) (p : Nat) (ob : Obj) : World := { w with heap := w.heap.setIfInBounds p ob }

theorem Sat.upd {own' : Own} {w : World} {p : Nat} {ob ob' : Obj} (h : Sat c F own w) (hu : Upd p ob ob' own own') : Sat c F own' (setBlk w p ob') := by
  have hp := h.own _ hu.mem
  have hlt := heap_lt hp
  have hget : ∀ b, b ≠ p → (setBlk w p ob').heap[b]? = w.heap[b]? := fun b hb => by simp only [setBlk]; rw [Array.getElem?_setIfInBounds_ne (Ne.symm hb)]
  have hids := hu.ids
  have hmem := hu.mem
  refine ⟨⟨h.keep.os, h.keep.tape, h.keep.output, by simp only [setBlk, Array.size_setIfInBounds]; exact h.keep.size, fun b hb hs => ?_⟩, fun a v ha => ?_, fun a v ha => by rw [hids]; exact h.away a v ha, by rw [hids]; exact h.nodup, fun x hx => ?_, fun x hx => ?_⟩
  · have hne : b ≠ p := by
      rintro rfl
      rcases h.ids _ hmem with h1 | h1
      · exact absurd hb (Nat.not_lt.2 h1)
      · exact hs h1
    rw [hget b hne]; exact h.keep.old b hb hs
  · have hne : a.block ≠ p := fun e => h.away a v ha (by rw [e]; exact List.mem_map_of_mem (f := (·.1)) hmem)
    rw [cell_congr (hget _ hne)]; exact h.know a v ha
  · rcases hu.new h.nodup x hx with rfl | ⟨h1, _⟩
    · have := h.ids (p, ob) hmem; exact this
    · exact h.ids x h1
  · rcases hu.new h.nodup x hx with rfl | ⟨h1, h2⟩
    · simp [setBlk, hlt]
    · rw [hget _ h2]; exact h.own x h1

theorem setBlk_self {w : World} {p : Nat} {ob : Obj} (h : w.heap[p]? = some ob) : setBlk w p ob = w := by
  have hlt := heap_lt h
  have : w.heap.setIfInBounds p ob = w.heap := by
    apply Array.ext
    · simp
    · intro i h1 h2
      rw [Array.getElem_setIfInBounds h2]
      split
      · rename_i e; subst e; rw [Array.getElem?_eq_getElem h2] at h; injection h with h; exact h.symm
      · rfl
  simp [setBlk, this]

theorem setBlk_setBlk {w : World} {p : Nat} {o1 o2 : Obj} : setBlk (setBlk w p o1) p o2 = setBlk w p o2 := by
  simp only [setBlk]
  congr 1
  apply Array.ext
  · simp
  · intro i h1 h2
    simp only [Array.size_setIfInBounds] at h1 h2
    by_cases hp : p = i
    · subst hp; simp
    · simp

def oneCell : Value → Bool
  | .agg _ | .tuple _ => false
  | _ => true

theorem run_store_at {P : Program} {w : World} {p k : Nat} {cs : List Value} {t : TypeId} {v : Value} (h : w.heap[p]? = some (.cells cs.toArray t (0, 0))) (hk : k < cs.length) (hv : oneCell v = true) :
    (store ⟨p, k, none⟩ v).run P w = .ok () (setBlk w p (.cells (cs.set k v).toArray t (0, 0))) := by
  have hc : w.cell? ⟨p, k, none⟩ = some cs[k] := by rw [cell_of h, List.getElem?_eq_getElem hk]
  have hf : w.frozen? ⟨p, k, none⟩ = false := by simp [World.frozen?, h]
  have hset : w.setCell ⟨p, k, none⟩ v = setBlk w p (.cells (cs.set k v).toArray t (0, 0)) := by
    have hlt := heap_lt h
    simp only [World.setCell, setBlk]
    congr 1
    apply Array.ext
    · simp
    · intro i h1 h2
      simp only [Array.size_modify, Array.size_setIfInBounds] at h1 h2
      rw [Array.getElem_setIfInBounds (by simpa using h1), Array.getElem_modify]
      split
      · rename_i e; subst e
        rw [Array.getElem?_eq_getElem hlt] at h
        injection h with h
        rw [h]; simp
      · rfl
  cases v <;> simp [oneCell] at hv <;> simp [store, Sem.run, hc, hf, hset]

theorem splice_nil (cs : List Value) (k : Nat) : splice cs k [] = cs := by simp [splice]
theorem splice_cons {cs : List Value} {k : Nat} {v : Value} {vs : List Value} (h : k < cs.length) : splice cs k (v :: vs) = splice (cs.set k v) (k + 1) vs := by
  simp only [splice, List.length_cons]
  rw [List.take_succ_eq_append_getElem (by simpa using h), List.take_set_of_le (Nat.le_refl k), List.getElem_set_self, List.drop_set_of_lt (by omega)]
  simp [Nat.add_assoc, Nat.add_comm 1 vs.length]

theorem run_storeCells_at {P : Program} {p : Nat} {t : TypeId} : ∀ (vs : List Value) (i k : Nat) (cs : List Value) (w : World), w.heap[p]? = some (.cells cs.toArray t (0, 0)) → k + i + vs.length ≤ cs.length → vs.all oneCell = true →
    (storeCells ⟨p, k, none⟩ vs i).run P w = .ok () (setBlk w p (.cells (splice cs (k + i) vs).toArray t (0, 0))) := by
  intro vs
  induction vs with
  | nil => intro i k cs w h _ _; simp [storeCells, splice_nil, setBlk_self h]
  | cons v vs ih =>
    intro i k cs w h hl ho
    simp only [List.all_cons, Bool.and_eq_true] at ho
    simp only [List.length_cons] at hl
    have hlt : k + i < cs.length := by omega
    simp only [storeCells, Sem.run_bind, add_mk, run_store_at h hlt ho.1, Result.andThen_ok]
    have hp := heap_lt h
    rw [ih (i + 1) k (cs.set (k + i) v) _ (by simp [setBlk, hp]) (by simp; omega) ho.2, setBlk_setBlk, splice_cons hlt, Nat.add_assoc]

theorem run_storeAt {P : Program} {w : World} {t : TypeId} {n : Nat} {p k : Nat} {T : TypeId} {cs : List Value} {v : Value} {vs : List Value} (hs : ∀ w, (sizeOf t).run P w = .ok n w) (hv : v.cells = vs.toArray) (hn : vs.length = n)
    (h : w.heap[p]? = some (.cells cs.toArray T (0, 0))) (hl : k + vs.length ≤ cs.length) (ho : vs.all oneCell = true) :
    (Instr.storeAt t (.pointer (some ⟨p, k, none⟩)) v).run P w = .ok () (setBlk w p (.cells (splice cs k vs).toArray T (0, 0))) := by
  have := run_storeCells_at (P := P) (p := p) (t := T) vs 0 k cs w h (by omega) ho
  simp only [Nat.add_zero] at this
  simp [Instr.storeAt, Instr.sureAddr, storeVar, hs, hv, hn, this]

/-- A store of a value of one cell. -/
theorem r_store1 {draw : Bool} {ops : Array Oper} {k : Nat} {t : TypeId} {x y : Operand} {A : Addr} {p j : Nat} {cs cs' : List Value} {T : TypeId} {v : Value} {own' : Own} (ho : ops[k]? = some ⟨d, .store t x y, ty, ps, af, g⟩) (hB : draw = true → aloneB ops k = true) (hd : d.all (fun d => Nat.blt d c.n) = true)
    (hw : wantedB ops env ⟨d, .store t x y, ty, ps, af, g⟩) (ht : TOne c.P t) (hx : Env.ev env x = some (.pointer (some A))) (hA : A = ⟨p, j, none⟩) (hy : Env.ev env y = some v) (hv : oneCell v = true)
    (hu : Upd p (.cells cs.toArray T (0, 0)) (.cells cs'.toArray T (0, 0)) own own') (hs : setV j [v] cs some = some cs')
    (h : R c draw ops Q (k + 1) (putEnv env d undef) F own') : R c draw ops Q k env F own := by
  refine r_one (Array.getElem?_eq_some_iff.1 ho).1 hB fun a w hh => ?_
  subst hA
  obtain ⟨h1, h2⟩ := setV_some hs
  simp only [Option.some.injEq] at h2
  unfold wpOpIn
  simp only [ho, wanted_of hh.env hw, if_true]
  refine ⟨fun _ _ => trivial, ?_⟩
  have hc : v.cells = [v].toArray := by cases v <;> simp [oneCell] at hv <;> rfl
  have hr := run_storeAt (P := c.P) (w := w) (t := t) (n := 1) (k := j) ht.size hc rfl (hh.sat.own _ hu.mem) h1 (by simp [hv])
  rw [h2] at hr
  rw [Oper.semAt_eq _ _ _ (fun _ h => by cases h)]
  simp only [execOp, hh.env.eval hx, hh.env.eval hy, Sem.run_bind, hr, Result.andThen_ok, Sem.run_pure, Oper.uponIn]
  exact h _ _ ⟨hh.env.put' hd undef, hh.sat.upd hu⟩

/-- A store of a struct or an array. -/
theorem r_storeN {draw : Bool} {ops : Array Oper} {k : Nat} {t : TypeId} {n : Nat} {x y : Operand} {A : Addr} {p j : Nat} {vs cs cs' : List Value} {T : TypeId} {own' : Own} (ho : ops[k]? = some ⟨d, .store t x y, ty, ps, af, g⟩) (hB : draw = true → aloneB ops k = true) (hd : d.all (fun d => Nat.blt d c.n) = true)
    (hw : wantedB ops env ⟨d, .store t x y, ty, ps, af, g⟩) (ht : TAgg c.P t n) (hx : Env.ev env x = some (.pointer (some A))) (hA : A = ⟨p, j, none⟩) (hy : Env.ev env y = some (.agg vs.toArray)) (hn : vs.length = n) (hv : vs.all oneCell = true)
    (hu : Upd p (.cells cs.toArray T (0, 0)) (.cells cs'.toArray T (0, 0)) own own') (hs : setV j vs cs some = some cs')
    (h : R c draw ops Q (k + 1) (putEnv env d undef) F own') : R c draw ops Q k env F own := by
  refine r_one (Array.getElem?_eq_some_iff.1 ho).1 hB fun a w hh => ?_
  subst hA
  obtain ⟨h1, h2⟩ := setV_some hs
  simp only [Option.some.injEq] at h2
  unfold wpOpIn
  simp only [ho, wanted_of hh.env hw, if_true]
  refine ⟨fun _ _ => trivial, ?_⟩
  have hr := run_storeAt (P := c.P) (w := w) (t := t) (n := n) (k := j) ht.size (v := .agg vs.toArray) rfl hn (hh.sat.own _ hu.mem) h1 hv
  rw [h2] at hr
  rw [Oper.semAt_eq _ _ _ (fun _ h => by cases h)]
  simp only [execOp, hh.env.eval hx, hh.env.eval hy, Sem.run_bind, hr, Result.andThen_ok, Sem.run_pure, Oper.uponIn]
  exact h _ _ ⟨hh.env.put' hd undef, hh.sat.upd hu⟩

/-! ### Calls -/

/-- A call that hands back one value and leaves what was there. -/
def Pure (P : Program) (f : FuncId) (args : List Value) (w : World) (v : Value) : Prop := Calls P f args.toArray w fun e w' => e = .returned v ∧ Keep [] w w'

theorem run_resolve_func {P : Program} {w : World} {ρ : Operand → Value} {x : Operand} {args : Array Operand} {ts : Array TypeId} {t : TypeId} {fn : Fn} {u v : Array Value} (h : ρ x = .func fn u v) :
    (resolve ρ { callee := .value x, args := args, argTypes := ts } t).run P w = .ok { target := .fn fn v, args := u ++ args.map ρ } w := by
  simp [resolve, h, Deferred.ofValue]

/-- A function that has a body. -/
structure HasBody (P : Program) (f : FuncId) : Prop where
  call : ∀ args w, (callFunc f args).run P w = .ok (.enter f args) w
  ni : P.inits.idxOf? f = none

theorem evals {n : Nat} {df : List Deferred} {env : Env} {a : Act} (ha : EnvOk n df env a) : ∀ {l : List Operand} {vs : List Value}, l.mapM (Env.ev env) = some vs → l.map a.eval = vs := by
  intro l
  induction l with
  | nil => intro vs h; simp at h; simp [h]
  | cons p r ih =>
    intro vs h
    simp only [List.mapM_cons, Option.bind_eq_bind, Option.bind_eq_some_iff, Option.pure_def, Option.some.injEq] at h
    obtain ⟨u, hu, r', hr', rfl⟩ := h
    simp [ih hr', ha.eval hu]

theorem run_call {P : Program} {w : World} {n : Nat} {df : List Deferred} {env : Env} {a : Act} (ha : EnvOk n df env a) {x : Operand} {f : FuncId} {us caps : List Value} {args : List Operand} {ts : Array TypeId} {vs : List Value} (hb : HasBody P f)
    (hx : Env.ev env x = some (.func (.func f) us.toArray caps.toArray)) (hv : args.mapM (Env.ev env) = some vs) :
    (execOp a.eval ⟨d, .call { callee := .value x, args := args.toArray, argTypes := ts }, ty, ps, af, g⟩).run P w = .ok (.enter f (us ++ vs ++ caps).toArray) w := by
  have e : args.toArray.map a.eval = vs.toArray := by rw [List.map_toArray, evals ha hv]
  simp only [execOp, Sem.run_bind, run_resolve_func (ha.eval hx), Result.andThen_ok, invoke, hb.call]
  rw [e]
  simp

theorem det_call {x : Operand} {f : FuncId} {us caps : List Value} {args : List Operand} {ts : Array TypeId} {vs : List Value} {v : Value} (hb : HasBody c.P f) (hx : Env.ev env x = some (.func (.func f) us.toArray caps.toArray)) (hv : args.mapM (Env.ev env) = some vs)
    (h : ∀ w, Sat c F own w → Pure c.P f (us ++ vs ++ caps) w v) : Det c F own env ⟨d, .call { callee := .value x, args := args.toArray, argTypes := ts }, ty, ps, af, g⟩ v := by
  intro a ha w hw
  rw [run_call ha hb hx hv]
  exact ⟨rfl, hb.ni, h w hw⟩

/-- Any call: what it leaves is shown. -/
theorem r_call {draw : Bool} {ops : Array Oper} {k : Nat} {x : Operand} {f : FuncId} {us caps : List Value} {args : List Operand} {ts : Array TypeId} {vs : List Value} (ho : ops[k]? = some ⟨d, .call { callee := .value x, args := args.toArray, argTypes := ts }, ty, ps, af, g⟩)
    (hB : draw = true → aloneB ops k = true) (hd : d.all (fun d => Nat.blt d c.n) = true) (hw : wantedB ops env ⟨d, .call { callee := .value x, args := args.toArray, argTypes := ts }, ty, ps, af, g⟩)
    (hb : HasBody c.P f) (hx : Env.ev env x = some (.func (.func f) us.toArray caps.toArray)) (hv : args.mapM (Env.ev env) = some vs)
    (h : ∀ w, Sat c F own w → Calls c.P f (us ++ vs ++ caps).toArray w fun e w' => ∃ v, e = .returned v ∧ ∃ F' own', Sat c F' own' w' ∧ R c draw ops Q (k + 1) (putEnv env d v) F' own') : R c draw ops Q k env F own := by
  refine r_one (Array.getElem?_eq_some_iff.1 ho).1 hB fun a w hh => ?_
  unfold wpOpIn
  simp only [ho, wanted_of hh.env hw, if_true]
  refine ⟨fun _ _ => trivial, ?_⟩
  rw [Oper.semAt_eq _ _ _ (fun _ h => by cases h), run_call hh.env hb hx hv]
  simp only [Oper.uponIn]
  refine ⟨FR_dep, calls_FR ((h w hh.sat).mono fun e w' he => ?_)⟩
  obtain ⟨v, rfl, F', own', hs, hR⟩ := he
  exact hR _ _ ⟨hh.env.put' hd v, hs⟩

/-! ### A function's beginning and end -/

def mkEnv : Nat → List Value → List (Nat × Value)
  | _, [] => []
  | n, v :: r => (n, v) :: mkEnv (n + 1) r

theorem mkEnv_get : ∀ (l : List Value) (n t : Nat) (v : Value), Env.get (mkEnv n l) t = some v → n ≤ t ∧ l[t - n]? = some v := by
  intro l
  induction l with
  | nil => intro n t v h; cases h
  | cons u r ih =>
    intro n t v h
    simp only [mkEnv, Env.get] at h
    cases hb : Nat.beq n t with
    | true =>
      have : n = t := Nat.eq_of_beq_eq_true hb
      subst this
      simp only [hb, cond_true, Option.some.injEq] at h
      subst h
      simp
    | false =>
      have hne : n ≠ t := fun e => by rw [e] at hb; simp at hb
      simp only [hb, cond_false] at h
      obtain ⟨h1, h2⟩ := ih (n + 1) t v h
      refine ⟨by omega, ?_⟩
      rw [show t - n = (t - (n + 1)) + 1 by omega, List.getElem?_cons_succ]
      exact h2

/-- What the body of a function must achieve, the marks of its range-over-func loops and all. -/
abbrev bodyQ (P : Program) (fn : Func) (E : Ending → World → Prop) : Exit → Act → World → Prop := bodyPostM (FR none) 0 P fn E
/-- What a function is to show: its ending, and what it leaves. -/
theorem fn_enter {P : Program} {f : FuncId} {fn : Func} {code : Code} {args : List Value} {n : Nat} {w : World} {S : List Nat} {F : Know} {own : Own} {E : Ending → World → Prop} (hf : P.funcs[f]? = some fn) (hb : fn.body = some code) (hn : fn.ntmps = n) (hlen : args.length ≤ n)
    (hF : ∀ a v, F a = some v → w.cell? a = some v) (haway : ∀ a v, F a = some v → a.block ∉ own.map (·.1)) (hnd : (own.map (·.1)).Nodup) (hS : ∀ x ∈ own, x.1 ∈ S) (hown : ∀ x ∈ own, w.heap[x.1]? = some x.2)
    (h : T ⟨P, n, w, S, none, []⟩ (mkEnv 0 args) F own code (bodyQ P fn E)) : Calls P f args.toArray w E := by
  refine calls_of_FR (n := 0) (callsIn_of_wp_marks hf hb trivial (h _ w ⟨⟨?_, rfl, ?_⟩, ⟨Keep.refl _ _, hF, haway, hnd, fun x hx => .inr (hS x hx), hown⟩⟩))
  · simp [hn]; omega
  · intro t v ht
    obtain ⟨_, h2⟩ := mkEnv_get args 0 t v ht
    simp only [Nat.sub_zero] at h2
    have hlt : t < args.length := by
      rcases Nat.lt_or_ge t args.length with h' | h'
      · exact h'
      · simp [List.getElem?_eq_none h'] at h2
    rw [List.getElem?_eq_getElem hlt] at h2
    injection h2 with h2
    have h3 : (args.toArray ++ Array.replicate (fn.ntmps - args.toArray.size) undef)[t]? = some v := by
      rw [Array.getElem?_append_left (by simpa using hlt)]
      simp [hlt, h2]
    rw [Array.getD_eq_getD_getElem?, h3]; rfl

/-- What stands in a result's place. -/
def resVal (env : List (Nat × Value)) : ResultVar → Option Value
  | .tmp t => Env.get env t
  | .cell _ _ => none

/-- The end, where no loop over a function has left its mark. -/
theorem leave_none {fn : Func} {v : Value} {E : Ending → World → Prop} {a : Act} {w : World} (hd : a.defers = []) (hr : (results fn a.tmps).run c.P w = .ok v w) (h : E (.returned v) w) : bodyQ c.P fn E .ret a w := by
  show LeavesInM (FR none) 0 c.P fn a.tmps E a.defers .returning w
  rw [hd]
  exact ⟨v, hr, h⟩
theorem ret_tmp {fn : Func} {t : Tmp} {v : Value} {E : Ending → World → Prop} (hQ : Q .ret = bodyQ c.P fn E .ret) (hr : fn.results = #[.tmp t]) (hv : Env.get env t = some v) (h : ∀ w, Sat c F own w → E (.returned v) w) (hdf : c.df = [] := by rfl) : TK c env F own (Q .ret) := by
  intro a w hh
  rw [hQ]
  refine leave_none (hh.env.defers.trans hdf) (v := v) ?_ (h w hh.sat)
  rw [results_tmp hr, hh.env.get t v hv]
theorem ret_tmp2 {fn : Func} {t u : Tmp} {v1 v2 : Value} {E : Ending → World → Prop} (hQ : Q .ret = bodyQ c.P fn E .ret) (hr : fn.results = #[.tmp t, .tmp u]) (hv : Env.get env t = some v1) (hu : Env.get env u = some v2) (h : ∀ w, Sat c F own w → E (.returned (.tuple [v1, v2].toArray)) w) (hdf : c.df = [] := by rfl) : TK c env F own (Q .ret) := by
  intro a w hh
  rw [hQ]
  refine leave_none (hh.env.defers.trans hdf) (v := .tuple [v1, v2].toArray) ?_ (h w hh.sat)
  rw [results_tmp2 hr, hh.env.get t v1 hv, hh.env.get u v2 hu]
theorem ret_tmp3 {fn : Func} {t u s : Tmp} {v1 v2 v3 : Value} {E : Ending → World → Prop} (hQ : Q .ret = bodyQ c.P fn E .ret) (hr : fn.results = #[.tmp t, .tmp u, .tmp s]) (hv : Env.get env t = some v1) (hu : Env.get env u = some v2) (hs : Env.get env s = some v3) (h : ∀ w, Sat c F own w → E (.returned (.tuple [v1, v2, v3].toArray)) w) (hdf : c.df = [] := by rfl) : TK c env F own (Q .ret) := by
  intro a w hh
  rw [hQ]
  refine leave_none (hh.env.defers.trans hdf) (v := .tuple [v1, v2, v3].toArray) ?_ (h w hh.sat)
  have e1 := hh.env.get t v1 hv
  have e2 := hh.env.get u v2 hu
  have e3 := hh.env.get s v3 hs
  simp only [Array.getD_eq_getD_getElem?] at e1 e2 e3
  simp [results, hr, e1, e2, e3]
end
end Go.Eng
