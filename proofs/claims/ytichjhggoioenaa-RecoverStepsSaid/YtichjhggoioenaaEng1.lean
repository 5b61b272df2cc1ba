/-
  The engine, part 1: what a call may leave behind in memory (Keep), and one order for a region that draws its order.
-/
import Derived.WalkKit
import Derived.Still
import Derived.OrdersIn
import Derived.RangeFuncRecord
namespace Go.Eng
open Go

/-- Old blocks outside of S are as they were, the streams are as they were. -/
structure Keep (S : List Nat) (w w' : World) : Prop where
  os : w'.os = w.os
  tape : w'.tape = w.tape
  output : w'.output = w.output
  size : w.heap.size ≤ w'.heap.size
  old : ∀ b, b < w.heap.size → b ∉ S → w'.heap[b]? = w.heap[b]?

theorem Keep.refl (S : List Nat) (w : World) : Keep S w w := ⟨rfl, rfl, rfl, Nat.le_refl _, fun _ _ _ => rfl⟩

theorem Keep.trans {S : List Nat} {a b c : World} (h : Keep S a b) (k : Keep S b c) : Keep S a c :=
  ⟨k.os.trans h.os, k.tape.trans h.tape, k.output.trans h.output, Nat.le_trans h.size k.size,
   fun i hi hs => (k.old i (Nat.lt_of_lt_of_le hi h.size) hs).trans (h.old i hi hs)⟩

theorem Keep.mono {S S' : List Nat} {w w' : World} (h : Keep S w w') (hs : ∀ b ∈ S, b ∈ S') : Keep S' w w' :=
  ⟨h.os, h.tape, h.output, h.size, fun b hb hn => h.old b hb fun hm => hn (hs b hm)⟩

theorem heap_lt {w : World} {b : Nat} {o : Obj} (h : w.heap[b]? = some o) : b < w.heap.size := by
  rcases Nat.lt_or_ge b w.heap.size with h' | h'
  · exact h'
  · simp [Array.getElem?_eq_none h'] at h

theorem Keep.block {S : List Nat} {w w' : World} (h : Keep S w w') {b : Nat} {o : Obj} (hb : w.heap[b]? = some o) (hs : b ∉ S) : w'.heap[b]? = some o :=
  (h.old b (heap_lt hb) hs).trans hb

theorem cell_lt {w : World} {a : Addr} {v : Value} (h : w.cell? a = some v) : a.block < w.heap.size := by
  unfold World.cell? at h
  split at h
  · rename_i hb; exact heap_lt hb
  · cases h

theorem cell_congr {w w' : World} {a : Addr} (h : w'.heap[a.block]? = w.heap[a.block]?) : w'.cell? a = w.cell? a := by
  unfold World.cell?; rw [h]

theorem Keep.cell {S : List Nat} {w w' : World} (h : Keep S w w') {a : Addr} {v : Value} (hc : w.cell? a = some v) (hs : a.block ∉ S) : w'.cell? a = some v := by
  rw [cell_congr (h.old a.block (cell_lt hc) hs), hc]

theorem Keep.alloc (S : List Nat) (w : World) (o : Obj) : Keep S w (w.alloc o) :=
  ⟨rfl, rfl, rfl, by simp, fun b hb _ => heap_alloc_old w o hb⟩

/-- What an operation that only makes memory does to the world. -/
structure Grew (w w' : World) (ob : Option Obj) : Prop where
  os : w'.os = w.os
  tape : w'.tape = w.tape
  output : w'.output = w.output
  heap : w'.heap = w.heap ++ ob.toList.toArray

theorem Grew.keep {S : List Nat} {w w' : World} {ob : Option Obj} (h : Grew w w' ob) : Keep S w w' := by
  refine ⟨h.os, h.tape, h.output, by rw [h.heap]; simp, fun b hb _ => ?_⟩
  rw [h.heap, Array.getElem?_append_left hb]

theorem Grew.new {w w' : World} {o : Obj} (h : Grew w w' (some o)) : w'.heap[w.heap.size]? = some o := by
  rw [h.heap]; simp

theorem Grew.size {w w' : World} {o : Obj} (h : Grew w w' (some o)) : w'.heap.size = w.heap.size + 1 := by
  rw [h.heap]; simp

theorem Grew.alloc (w : World) (o : Obj) : Grew w (w.alloc o) (some o) :=
  ⟨rfl, rfl, rfl, by show w.heap.push o = _; simp⟩
theorem Grew.same (w : World) : Grew w w none := ⟨rfl, rfl, rfl, by simp⟩

/-! ### One order for all -/

theorem calls_agree {P : Program} {f : FuncId} {args : Array Value} {w : World} {v1 v2 : Value} (hi : P.inits.idxOf? f = none)
    (h1 : Calls P f args w fun e w' => e = .returned v1 ∧ Keep [] w w') (h2 : Calls P f args w fun e w' => e = .returned v2 ∧ Keep [] w w') : v1 = v2 := by
  have g1 : Calls P f args w fun | .returned v, _ => v = v1 | _, _ => False := h1.mono fun e w' ⟨he, _⟩ => by subst he; exact rfl
  have g2 : Calls P f args w fun | .returned v, _ => v = v2 | _, _ => False := h2.mono fun e w' ⟨he, _⟩ => by subst he; exact rfl
  obtain ⟨n, v, w3, e1, rfl⟩ := Calls.done (R := fun v _ => v = v1) g1 hi
  obtain ⟨m, u, w4, e2, rfl⟩ := Calls.done (R := fun v _ => v = v2) g2 hi
  have a : runN P (n + m) (lone (Frame.enter P f args .normal) [] w) = .ended (.done v) w3 := by rw [runN_add, e1]
  have b : runN P (m + n) (lone (Frame.enter P f args .normal) [] w) = .ended (.done u) w4 := by rw [runN_add, e2]
  rw [Nat.add_comm, a] at b
  injection b with ho hw
  injection ho with hv

/-- A result that depends on nothing of the world: one value; a call that hands back one value and leaves what was there. -/
def detUpon (P : Program) (w : World) (v : Value) : Result Next → Prop
  | .ok (.value u) w' => w' = w ∧ u = v
  | .ok .skip w' => w' = w ∧ v = undef
  | .ok (.enter f args) w' => w' = w ∧ P.inits.idxOf? f = none ∧ Calls P f args w (fun e w'' => e = .returned v ∧ Keep [] w w'')
  | _ => False

theorem detUpon.unique {P : Program} {w : World} {v1 v2 : Value} {r : Result Next} (h1 : detUpon P w v1 r) (h2 : detUpon P w v2 r) : v1 = v2 := by
  cases r with
  | halt x w' => cases h1
  | ok nx w' =>
    cases nx <;> simp only [detUpon] at h1 h2
    case value u => exact h1.2.symm.trans h2.2
    case skip => exact h1.2.trans h2.2.symm
    case enter f args => exact calls_agree h1.2.1 h1.2.2 h2.2.2

abbrev News := List (Nat × Obj)
/-- All that was made between two worlds. -/
def newsOf (w w' : World) : News := (List.range' w.heap.size (w'.heap.size - w.heap.size)).map fun i => (i, w'.heap.getD i (.cells #[] 0))

theorem newsOf_ids (w w' : World) : (newsOf w w').map (·.1) = List.range' w.heap.size (w'.heap.size - w.heap.size) := by
  simp [newsOf, List.map_map, Function.comp_def]
theorem newsOf_mem {w w' : World} {x : Nat × Obj} (h : x ∈ newsOf w w') : w.heap.size ≤ x.1 ∧ w'.heap[x.1]? = some x.2 := by
  obtain ⟨i, hi, rfl⟩ := List.mem_map.1 h
  rw [List.mem_range'_1] at hi
  have h2 : i < w'.heap.size := by omega
  exact ⟨hi.1, by simp [h2]⟩
theorem newsOf_same (w : World) : newsOf w w = [] := by simp [newsOf]
theorem newsOf_one {w w' : World} {o : Obj} (h : Grew w w' (some o)) : newsOf w w' = [(w.heap.size, o)] := by
  have h1 := h.size
  have h2 := h.new
  unfold newsOf
  rw [h1, show w.heap.size + 1 - w.heap.size = 1 by omega]
  have h3 : w.heap.size < w'.heap.size := by omega
  have h4 : w'.heap.getD w.heap.size (.cells #[] 0) = o := by
    rw [Array.getElem?_eq_getElem h3] at h2
    injection h2 with h2
    simp [h3, h2]
  simp only [List.range'_one, List.map_cons, List.map_nil, h4]

/-- How an operation is told: it has one value; it makes memory, without a call; it makes memory in whatever way, and what it hands back is told ahead. -/
inductive Kind where
  | det
  | new
  | mem (φ : Value → News → Prop)

def memUpon (P : Program) (w : World) (φ : Value → News → Prop) : Result Next → Prop
  | .ok (.value v) w' => Keep [] w w' ∧ φ v (newsOf w w')
  | .ok (.enter f args) w1 => w1 = w ∧ Calls P f args w (fun e w' => ∃ v, e = .returned v ∧ Keep [] w w' ∧ φ v (newsOf w w'))
  | _ => False

def Ok (P : Program) (C : World → Prop) (a : Act) (o : Oper) : Kind → (Value → News → Prop) → Prop
  | .det, S => ∃ v0, (∀ w, C w → detUpon P w v0 ((execOp a.eval o).run P w)) ∧ ∀ u nb, S u nb ↔ u = v0
  | .new, S => ∀ w, C w → ∃ v w', (execOp a.eval o).run P w = .ok (.value v) w' ∧ Keep [] w w' ∧ S v (newsOf w w')
  | .mem φ, S => (∀ u nb, S u nb ↔ φ u nb) ∧ ∀ w, C w → memUpon P w φ ((execOp a.eval o).run P w)

/-- What is shown of one operation in many ways holds in all at once. -/
theorem Ok.inter {P : Program} {C : World → Prop} {a : Act} {o : Oper} {k : Kind} {ι : Type} {S : ι → Value → News → Prop} {J : ι → Prop} (i0 : ι) (h0 : J i0) (hC : ∃ w, C w) (h : ∀ i, J i → Ok P C a o k (S i)) :
    Ok P C a o k (fun u nb => ∀ i, J i → S i u nb) := by
  cases k with
  | det =>
    obtain ⟨v0, h1, h2⟩ := h i0 h0
    obtain ⟨w, hw⟩ := hC
    refine ⟨v0, h1, fun u nb => ⟨fun hu => (h2 u nb).1 (hu i0 h0), fun hu i hi => ?_⟩⟩
    obtain ⟨v1, g1, g2⟩ := h i hi
    rw [g2, hu]
    exact (h1 w hw).unique (g1 w hw)
  | new =>
    intro w hw
    obtain ⟨v, w', h1, h2, _⟩ := h i0 h0 w hw
    refine ⟨v, w', h1, h2, fun i hi => ?_⟩
    obtain ⟨u, w2, g1, _, g3⟩ := h i hi w hw
    rw [h1] at g1
    injection g1 with e1 e2
    injection e1 with e3
    subst e2; subst e3
    exact g3
  | mem φ =>
    obtain ⟨h1, h2⟩ := h i0 h0
    refine ⟨fun u nb => ⟨fun hu => (h1 u nb).1 (hu i0 h0), fun hu i hi => ((h i hi).1 u nb).2 hu⟩, h2⟩

theorem Ok.mono {P : Program} {C C' : World → Prop} {a : Act} {o : Oper} {k : Kind} {S : Value → News → Prop} (h : Ok P C a o k S) (hc : ∀ w, C' w → C w) : Ok P C' a o k S := by
  cases k with
  | det => obtain ⟨v0, h1, h2⟩ := h; exact ⟨v0, fun w hw => h1 w (hc w hw), h2⟩
  | new => exact fun w hw => h w (hc w hw)
  | mem φ => exact ⟨h.1, fun w hw => h.2 w (hc w hw)⟩

/-- The one is, in some order, a part of the other. -/
def SubP {α : Type} (l₁ l₂ : List α) : Prop := ∃ l : List α, l.Perm l₁ ∧ l.Sublist l₂
theorem SubP.refl {α : Type} (l : List α) : SubP l l := ⟨l, .refl _, .refl _⟩
theorem SubP.ofSub {α : Type} {l₁ l₂ : List α} (h : l₁.Sublist l₂) : SubP l₁ l₂ := ⟨l₁, .refl _, h⟩
theorem SubP.ofPerm {α : Type} {l₁ l₂ : List α} (h : l₁.Perm l₂) : SubP l₁ l₂ := ⟨l₂, h.symm, .refl _⟩
theorem SubP.subset {α : Type} {l₁ l₂ : List α} (h : SubP l₁ l₂) : ∀ x ∈ l₁, x ∈ l₂ := by
  obtain ⟨l, hp, hs⟩ := h
  exact fun x hx => hs.subset (hp.mem_iff.2 hx)
theorem SubP.append_left {α : Type} {l₁ l₂ : List α} (h : SubP l₁ l₂) (t : List α) : SubP (t ++ l₁) (t ++ l₂) := by
  obtain ⟨l, hp, hs⟩ := h
  exact ⟨t ++ l, hp.append_left _, hs.append_left _⟩
theorem SubP.filter {α : Type} {l₁ l₂ : List α} (h : SubP l₁ l₂) (p : α → Bool) : SubP (l₁.filter p) (l₂.filter p) := by
  obtain ⟨l, hp, hs⟩ := h
  exact ⟨l.filter p, hp.filter _, hs.filter _⟩
theorem SubP.trans {α : Type} {l₁ l₂ l₃ : List α} (h : SubP l₁ l₂) (k : SubP l₂ l₃) : SubP l₁ l₃ := by
  obtain ⟨l, hp, hs⟩ := h
  obtain ⟨m, kp, ks⟩ := k
  obtain ⟨n, np, ns⟩ := List.exists_perm_sublist hs kp.symm
  exact ⟨n, np.trans hp, ns.trans ks⟩

/-- New blocks, each under the slot of the operation that made it. -/
abbrev TNews := List (Option Tmp × (Nat × Obj))
def tagL (t : Option Tmp) (nb : News) : TNews := nb.map fun x => (t, x)
def restr (ops : Array Oper) (o : Oper) (L : TNews) : TNews := L.filter fun x => x.1.any fun t => (o.looksAt ops).contains t

/-- What has been made since the world had n0 blocks. -/
structure HoldsL (n0 : Nat) (L : TNews) (w : World) : Prop where
  nodup : (L.map (·.2.1)).Nodup
  at_ : ∀ x ∈ L, n0 ≤ x.2.1 ∧ w.heap[x.2.1]? = some x.2.2

theorem HoldsL.nil (n0 : Nat) (w : World) : HoldsL n0 [] w := ⟨by simp, fun _ h => by cases h⟩
theorem HoldsL.sub {n0 : Nat} {L L' : TNews} {w : World} (h : HoldsL n0 L' w) (hs : SubP L L') : HoldsL n0 L w := by
  refine ⟨?_, fun x hx => h.at_ x (hs.subset x hx)⟩
  obtain ⟨l, hp, hl⟩ := hs
  exact (hp.map _).nodup_iff.1 ((hl.map _).nodup h.nodup)
theorem HoldsL.keep {n0 : Nat} {L : TNews} {w w' : World} (h : HoldsL n0 L w) (hk : Keep [] w w') : HoldsL n0 L w' :=
  ⟨h.nodup, fun x hx => ⟨(h.at_ x hx).1, hk.block (h.at_ x hx).2 (by simp)⟩⟩
theorem HoldsL.add {n0 : Nat} {L : TNews} {w w' : World} (t : Option Tmp) (h : HoldsL n0 L w) (hn : n0 ≤ w.heap.size) (hk : Keep [] w w') : HoldsL n0 (tagL t (newsOf w w') ++ L) w' := by
  have h' := h.keep hk
  have e : (tagL t (newsOf w w')).map (·.2.1) = List.range' w.heap.size (w'.heap.size - w.heap.size) := by
    rw [tagL, List.map_map, ← newsOf_ids]; rfl
  refine ⟨?_, fun x hx => ?_⟩
  · rw [List.map_append, e, List.nodup_append]
    refine ⟨List.nodup_range', h.nodup, fun i hi j hj => ?_⟩
    rw [List.mem_range'_1] at hi
    obtain ⟨x, hx, rfl⟩ := List.mem_map.1 hj
    have := heap_lt (h.at_ x hx).2
    omega
  · rcases List.mem_append.1 hx with hx | hx
    · obtain ⟨y, hy, rfl⟩ := List.mem_map.1 hx
      obtain ⟨g1, g2⟩ := newsOf_mem hy
      exact ⟨Nat.le_trans hn g1, g2⟩
    · exact h'.at_ x hx
theorem restr_sub (ops : Array Oper) (o : Oper) (L : TNews) : SubP (restr ops o L) L := .ofSub List.filter_sublist
theorem restr_app {ops : Array Oper} {o : Oper} {t : Option Tmp} (h : ∀ d, t = some d → d ∉ o.looksAt ops) (nb : News) (L : TNews) : restr ops o (tagL t nb ++ L) = restr ops o L := by
  unfold restr
  rw [List.filter_append]
  have : (tagL t nb).filter (fun x => x.1.any fun t => (o.looksAt ops).contains t) = [] := by
    rw [List.filter_eq_nil_iff]
    intro x hx
    obtain ⟨y, hy, rfl⟩ := List.mem_map.1 hx
    cases t with
    | none => simp
    | some d => simpa using h d rfl
  rw [this, List.nil_append]
theorem restr_mono {ops : Array Oper} {o : Oper} {L L' : TNews} (h : SubP L L') : SubP (restr ops o L) (restr ops o L') := h.filter _

section
variable {P : Program} {ops : Array Oper} {md : Region.Mode} {C : World → Prop} {n0 : Nat} {kd : Nat → Kind} {m : Nat}

abbrev ZK := Act → TNews → Prop
def Prem (C : World → Prop) (n0 : Nat) (L : TNews) : Prop := ∃ w, C w ∧ HoldsL n0 L w
theorem Prem.sub {L L' : TNews} (h : Prem C n0 L') (hs : SubP L L') : Prem C n0 L := by
  obtain ⟨w, h1, h2⟩ := h; exact ⟨w, h1, h2.sub hs⟩
def CL (ops : Array Oper) (C : World → Prop) (n0 : Nat) (o : Oper) (L : TNews) (w : World) : Prop := C w ∧ HoldsL n0 (restr ops o L) w
theorem CL_of {o : Oper} {L : TNews} {w : World} (h1 : C w) (h2 : HoldsL n0 L w) : CL ops C n0 o L w := ⟨h1, h2.sub (restr_sub _ _ _)⟩

def gStep (P : Program) (ops : Array Oper) (C : World → Prop) (n0 : Nat) (k : Kind) (o : Oper) (K : ZK) (a : Act) (L : TNews) : Prop :=
  Prem C n0 L → if Region.wanted o (yielded ops a.tmps) then
    (∃ S, Ok P (CL ops C n0 o L) a o k S ∧ ∀ v nb, S v nb → K (a.put o.dst v) (tagL o.dst nb ++ L))
  else K (a.put o.dst undef) L

theorem gStep_mono {k : Kind} {o : Oper} {K K' : ZK} (h : ∀ a L, Prem C n0 L → K a L → K' a L) (hK' : ∀ a L, (Prem C n0 L → K' a L) → K' a L) {a : Act} {L : TNews} (hh : gStep P ops C n0 k o K a L) : gStep P ops C n0 k o K' a L := by
  intro hp
  have hh := hh hp
  split
  · rename_i hw
    simp only [hw, if_true] at hh
    obtain ⟨S, h1, h2⟩ := hh
    exact ⟨S, h1, fun v nb hv => hK' _ _ fun hp' => h _ _ hp' (h2 v nb hv)⟩
  · rename_i hw; simp only [hw] at hh; exact h _ _ hp hh

/-- Whatever is known of fewer new blocks is known of more; and only worlds that there are count. -/
structure Inv (C : World → Prop) (n0 : Nat) (K : ZK) : Prop where
  sub : ∀ a L L', SubP L L' → K a L → K a L'
  prem : ∀ a L, (Prem C n0 L → K a L) → K a L

theorem gStep_inv {k : Kind} {o : Oper} {K : ZK} (hK : Inv C n0 K) : Inv C n0 (gStep P ops C n0 k o K) := by
  refine ⟨fun a L L' hs hh hp => ?_, fun a L h hp => h hp hp⟩
  have hh := hh (hp.sub hs)
  split
  · rename_i hw
    simp only [hw, if_true] at hh
    obtain ⟨S, h1, h2⟩ := hh
    exact ⟨S, h1.mono fun w hw => ⟨hw.1, hw.2.sub (restr_mono hs)⟩, fun v nb hv => hK.sub _ _ _ (hs.append_left _) (h2 v nb hv)⟩
  · rename_i hw; simp only [hw] at hh; exact hK.sub _ _ _ hs hh

theorem Ok_put {k : Kind} {S : Value → News → Prop} {Cw : World → Prop} {o : Oper} (hs : ∀ cs b, o.op ≠ .select cs b) {a : Act} {d : Option Tmp} {u : Value} (h : ∀ t, d = some t → t ∉ o.looksAt ops) :
    Ok P Cw (a.put d u) o k S ↔ Ok P Cw a o k S := by
  unfold Ok; rw [execOp_put o hs a d u h]

theorem CL_app {o : Oper} {t : Option Tmp} (h : ∀ d, t = some d → d ∉ o.looksAt ops) (nb : News) (L : TNews) : CL ops C n0 o (tagL t nb ++ L) = CL ops C n0 o L := by
  funext w; unfold CL; rw [restr_app h]

/-- An operation's outcome in a world that there is. -/
theorem Ok.some {k : Kind} {S : Value → News → Prop} {o : Oper} {a : Act} {L : TNews} (hC : ∀ w w', C w → Keep [] w w' → C w') (hn : ∀ w, C w → n0 ≤ w.heap.size) (h : Ok P (CL ops C n0 o L) a o k S) (hp : Prem C n0 L) :
    ∃ v nb, S v nb ∧ Prem C n0 (tagL o.dst nb ++ L) := by
  obtain ⟨w, h1, h2⟩ := hp
  have hcl : CL ops C n0 o L w := CL_of h1 h2
  cases k with
  | det =>
    obtain ⟨v0, g1, g2⟩ := h
    exact ⟨v0, [], (g2 v0 []).2 rfl, w, h1, h2⟩
  | new =>
    obtain ⟨v, w', _, g2, g3⟩ := h w hcl
    exact ⟨v, _, g3, w', hC w w' h1 g2, h2.add _ (hn w h1) g2⟩
  | mem φ =>
    obtain ⟨g1, g2⟩ := h
    have g := g2 w hcl
    generalize (execOp a.eval o).run P w = res at g
    cases res with
    | halt x w' => cases g
    | ok nx w' =>
      cases nx <;> simp only [memUpon] at g
      case value v => exact ⟨v, _, (g1 _ _).2 g.2, w', hC w w' h1 g.1, h2.add _ (hn w h1) g.1⟩
      case enter f args =>
        obtain ⟨_, hc⟩ := g
        obtain ⟨e, w2, fr, ⟨v, rfl, g3, g4⟩, _⟩ := hc []
        exact ⟨v, _, (g1 _ _).2 g4, w2, hC w w2 h1 g3, h2.add _ (hn w h1) g3⟩

/-- Two operations that are apart may be exchanged. -/
theorem gStep_swap {ki kj : Kind} {oi oj : Oper} (hC : ∀ w w', C w → Keep [] w w' → C w') (hn : ∀ w, C w → n0 ≤ w.heap.size) (hap : oi.apart ops oj = true)
    (hsi : ∀ cs b, oi.op ≠ .select cs b) (hsj : ∀ cs b, oj.op ≠ .select cs b) {K : ZK} (hK : Inv C n0 K) {a : Act} {L : TNews}
    (h : gStep P ops C n0 ki oi (gStep P ops C n0 kj oj K) a L) : gStep P ops C n0 kj oj (gStep P ops C n0 ki oi K) a L := by
  obtain ⟨h1, h2, h3⟩ := Oper.apart_spec hap
  intro hp
  have h := h hp
  unfold gStep at h ⊢
  simp only [wanted_put oj a oi.dst _ h1, Ok_put hsj h1, CL_app h1] at h
  simp only [wanted_put oi a oj.dst _ h3, Ok_put hsi h3, CL_app h3]
  by_cases wi : Region.wanted oi (yielded ops a.tmps) = true <;> by_cases wj : Region.wanted oj (yielded ops a.tmps) = true
  · simp only [wi, wj, if_true] at h ⊢
    obtain ⟨Si, hi1, hi2⟩ := h
    obtain ⟨v0, nb0, hS0, hp0⟩ := hi1.some hC hn hp
    have hch : ∀ i : {x : Value × News // Si x.1 x.2 ∧ Prem C n0 (tagL oi.dst x.2 ++ L)}, ∃ S, Ok P (CL ops C n0 oj L) a oj kj S ∧ ∀ u nb', S u nb' → K ((a.put oi.dst i.1.1).put oj.dst u) (tagL oj.dst nb' ++ (tagL oi.dst i.1.2 ++ L)) :=
      fun ⟨x, hx1, hx2⟩ => hi2 x.1 x.2 hx1 hx2
    obtain ⟨S, hS⟩ := Classical.axiomOfChoice hch
    obtain ⟨w0, g1, g2⟩ := hp
    refine ⟨fun u nb' => ∀ i, True → S i u nb', Ok.inter ⟨(v0, nb0), hS0, hp0⟩ trivial ⟨w0, CL_of g1 g2⟩ fun i _ => (hS i).1, fun u nb' hu hp1 => ⟨Si, hi1, fun v nb hv => hK.prem _ _ fun hp2 => ?_⟩⟩
    have hp3 : Prem C n0 (tagL oi.dst nb ++ L) := hp2.sub (.ofSub ((List.sublist_append_right _ _).append_left _))
    have := (hS ⟨(v, nb), hv, hp3⟩).2 u nb' (hu _ trivial)
    rw [← Act.put_comm a v u h2]
    refine hK.sub _ _ _ (.ofPerm ?_) this
    rw [← List.append_assoc, ← List.append_assoc]
    exact List.perm_append_comm.append_right _
  · simp only [wi, wj, if_true, Bool.false_eq_true, if_false] at h ⊢
    obtain ⟨Si, hi1, hi2⟩ := h
    refine fun _ => ⟨Si, hi1, fun v nb hv => hK.prem _ _ fun hp2 => ?_⟩
    rw [← Act.put_comm a v undef h2]
    exact hi2 v nb hv hp2
  · simp only [wi, wj, if_true, Bool.false_eq_true, if_false] at h ⊢
    obtain ⟨Sj, hj1, hj2⟩ := h hp
    refine ⟨Sj, hj1, fun v nb hv hp2 => ?_⟩
    rw [← Act.put_comm a undef v h2]; exact hj2 v nb hv
  · simp only [wi, wj, Bool.false_eq_true, if_false] at h ⊢
    intro _
    rw [← Act.put_comm a undef undef h2]; exact h hp

/-- The operations that may come up now, of those below m. -/
def sready (md : Region.Mode) (ops : Array Oper) (m : Nat) (listed : Array Bool) : List Nat := (Region.ready md ops listed).filter (· < m)

theorem mem_sready {i : Nat} {listed : Array Bool} : i ∈ sready md ops m listed ↔ i ∈ Region.ready md ops listed ∧ i < m := by
  simp [sready]

def wpAnyG (P : Program) (md : Region.Mode) (ops : Array Oper) (C : World → Prop) (n0 : Nat) (kd : Nat → Kind) (m : Nat) (Z : ZK) : Nat → Array Bool → ZK
  | 0, _, a, L => Z a L
  | fuel + 1, listed, a, L => Prem C n0 L → sready md ops m listed ≠ [] ∧ ∀ i ∈ sready md ops m listed, ∃ o, ops[i]? = some o ∧ gStep P ops C n0 (kd i) o (wpAnyG P md ops C n0 kd m Z fuel (listed.setIfInBounds i true)) a L

theorem wpAnyG_inv {Z : ZK} (hZ : Inv C n0 Z) : ∀ (fuel : Nat) (listed : Array Bool), Inv C n0 (wpAnyG P md ops C n0 kd m Z fuel listed) := by
  intro fuel
  induction fuel with
  | zero => intro listed; exact hZ
  | succ fuel ih =>
    intro listed
    refine ⟨fun a L L' hs h hp => ?_, fun a L h hp => h hp hp⟩
    obtain ⟨h1, h2⟩ := h (hp.sub hs)
    refine ⟨h1, fun i hi => ?_⟩
    obtain ⟨o, ho, hg⟩ := h2 i hi
    exact ⟨o, ho, (gStep_inv (ih _)).sub _ _ _ hs hg⟩

/-- At most k operations below m have not come up yet. -/
def Few (m : Nat) (listed : Array Bool) (k : Nat) : Prop := ∀ l : List Nat, l.Nodup → (∀ j ∈ l, j < m ∧ listed.getD j true = false) → l.length ≤ k

theorem getD_set_self {listed : Array Bool} {j : Nat} : (listed.setIfInBounds j true).getD j true = true := by
  rcases Nat.lt_or_ge j listed.size with h | h
  · simp [h]
  · simp

theorem Few.step {listed : Array Bool} {k j : Nat} (h : Few m listed (k + 1)) (hj : j < m) (hu : listed.getD j true = false) : Few m (listed.setIfInBounds j true) k := by
  intro l hl ha
  have hn : j ∉ l := fun hm => by have := (ha j hm).2; rw [getD_set_self] at this; cases this
  have := h (j :: l) (List.nodup_cons.2 ⟨hn, hl⟩) (fun x hx => by
    rcases List.mem_cons.1 hx with rfl | hx
    · exact ⟨hj, hu⟩
    · refine ⟨(ha x hx).1, ?_⟩
      have hne : j ≠ x := fun e => hn (e ▸ hx)
      have := (ha x hx).2
      rwa [getD_set_ne true hne] at this)
  simpa using this

theorem wpAnyG_first {Z : ZK} (hC : ∀ w w', C w → Keep [] w w' → C w') (hn : ∀ w, C w → n0 ≤ w.heap.size) (hZ : Inv C n0 Z) {i : Nat} {oi : Oper} (hi : ops[i]? = some oi) (hsel : ∀ (j : Nat) (o : Oper) cs b, ops[j]? = some o → o.op ≠ .select cs b) :
    ∀ (fuel : Nat) (listed : Array Bool) (a : Act) (L : TNews), Few m listed (fuel + 1) →
      (∀ j oj, ops[j]? = some oj → j < m → j ≠ i → listed.getD j true = false → (∀ e ∈ oj.after, Region.binds md e = true → e.on ≠ i) → oi.apart ops oj = true) →
      i ∈ sready md ops m listed → gStep P ops C n0 (kd i) oi (wpAnyG P md ops C n0 kd m Z fuel (listed.setIfInBounds i true)) a L →
      wpAnyG P md ops C n0 kd m Z (fuel + 1) listed a L := by
  intro fuel
  induction fuel with
  | zero =>
    intro listed a L hfew _ hr H _
    refine ⟨fun h0 => (by rw [h0] at hr; cases hr), fun j hj => ?_⟩
    by_cases hji : j = i
    · subst hji; exact ⟨oi, hi, H⟩
    · obtain ⟨hj1, hjm⟩ := mem_sready.1 hj
      obtain ⟨hi1, him⟩ := mem_sready.1 hr
      have := hfew [i, j] (by simp [Ne.symm hji]) (by
        intro x hx
        rcases List.mem_cons.1 hx with rfl | hx
        · exact ⟨him, (mem_ready.1 hi1).1⟩
        · rcases List.mem_cons.1 hx with rfl | hx
          · exact ⟨hjm, (mem_ready.1 hj1).1⟩
          · cases hx)
      simp at this
  | succ fuel ih =>
    intro listed a L hfew hfree hr H hp0
    refine ⟨fun h0 => (by rw [h0] at hr; cases hr), fun j hj => ?_⟩
    by_cases hji : j = i
    · subst hji; exact ⟨oi, hi, H⟩
    · obtain ⟨hj1, hjm⟩ := mem_sready.1 hj
      obtain ⟨hi1, him⟩ := mem_sready.1 hr
      obtain ⟨hjun, oj, hoj, hall⟩ := mem_ready.1 hj1
      have hiun := (mem_ready.1 hi1).1
      have hnot : ∀ e ∈ oj.after, Region.binds md e = true → e.on ≠ i := fun e he hb heq => by
        have h1 := hall e he hb
        rw [heq] at h1
        rcases Nat.lt_or_ge i listed.size with h' | h'
        · simp [h'] at hiun h1; rw [hiun] at h1; cases h1
        · simp [Array.getElem?_eq_none h'] at h1
      have hap := hfree j oj hoj hjm hji hjun hnot
      have hInv := wpAnyG_inv (P := P) (md := md) (ops := ops) (kd := kd) (m := m) hZ fuel ((listed.setIfInBounds i true).setIfInBounds j true)
      have h1 : gStep P ops C n0 (kd i) oi (gStep P ops C n0 (kd j) oj (wpAnyG P md ops C n0 kd m Z fuel ((listed.setIfInBounds i true).setIfInBounds j true))) a L :=
        gStep_mono (fun a' L' hp h' => by
          obtain ⟨o, ho, hg⟩ := (h' hp).2 j (mem_sready.2 ⟨ready_mono hj1 hji, hjm⟩)
          rw [hoj] at ho
          cases ho
          exact hg) (gStep_inv hInv).prem H
      have h2 := gStep_swap hC hn hap (fun cs b => hsel i oi cs b hi) (fun cs b => hsel j oj cs b hoj) hInv h1
      have hfree' : ∀ k ok, ops[k]? = some ok → k < m → k ≠ i → (listed.setIfInBounds j true).getD k true = false →
          (∀ e ∈ ok.after, Region.binds md e = true → e.on ≠ i) → oi.apart ops ok = true := fun k ok hk hkm hki hun hno => by
        refine hfree k ok hk hkm hki ?_ hno
        by_cases hjk : j = k
        · subst hjk; exact hjun
        · rw [getD_set_ne true hjk] at hun; exact hun
      refine ⟨oj, hoj, gStep_mono (fun a' L' _ h3 => ih (listed.setIfInBounds j true) a' L' (hfew.step hjm hjun) hfree' (mem_sready.2 ⟨ready_mono hi1 (Ne.symm hji), him⟩) ?_) (wpAnyG_inv hZ _ _).prem h2⟩
      rw [Array.setIfInBounds_comm _ _ hji]
      exact h3

/-! ### The order that is walked: given as a list of indices -/

/-- The walk in the order that is given. -/
def wpG (P : Program) (ops : Array Oper) (C : World → Prop) (n0 : Nat) (kd : Nat → Kind) (Z : ZK) : List Nat → ZK
  | [], a, L => Z a L
  | i :: rest, a, L => ∃ o, ops[i]? = some o ∧ gStep P ops C n0 (kd i) o (wpG P ops C n0 kd Z rest) a L

theorem wpG_inv {Z : ZK} (hZ : Inv C n0 Z) : ∀ l : List Nat, (∀ i ∈ l, ∃ o, ops[i]? = some o) → Inv C n0 (wpG P ops C n0 kd Z l)
  | [], _ => hZ
  | i :: l, hl => by
    obtain ⟨o, ho⟩ := hl i List.mem_cons_self
    have ih := gStep_inv (P := P) (ops := ops) (k := kd i) (o := o) (wpG_inv hZ l fun j hj => hl j (List.mem_cons_of_mem _ hj))
    refine ⟨fun a L L' hs ⟨o', ho', h⟩ => ?_, fun a L h => ⟨o, ho, ih.prem _ _ fun hp => ?_⟩⟩
    · rw [ho] at ho'; cases ho'
      exact ⟨o, ho, ih.sub _ _ _ hs h⟩
    · obtain ⟨o', ho', h⟩ := h hp
      rw [ho] at ho'; cases ho'
      exact h

def sfree (md : Region.Mode) (ops : Array Oper) (m : Nat) (listed : Array Bool) (i : Nat) : Bool :=
  match ops[i]? with
  | none => false
  | some oi => (List.range m).all fun j => j == i || listed.getD j true || match ops[j]? with
      | some oj => oj.after.any (fun e => Region.binds md e && e.on == i) || oi.apart ops oj
      | none => true

theorem sfree_spec {i : Nat} {oi : Oper} {listed : Array Bool} (hi : ops[i]? = some oi) (h : sfree md ops m listed i = true) (j : Nat) (oj : Oper)
    (hj : ops[j]? = some oj) (hjm : j < m) (hne : j ≠ i) (hun : listed.getD j true = false) (hno : ∀ e ∈ oj.after, Region.binds md e = true → e.on ≠ i) :
    oi.apart ops oj = true := by
  simp only [sfree, hi, List.all_eq_true, List.mem_range] at h
  have h1 := h j hjm
  simp only [hj, Bool.or_eq_true, beq_iff_eq, hne, false_or, hun, Bool.false_eq_true] at h1
  rcases h1 with h1 | h1
  · rw [Array.any_eq_true'] at h1
    obtain ⟨e, he, hb⟩ := h1
    simp only [Bool.and_eq_true, beq_iff_eq] at hb
    exact absurd hb.2 (hno e he hb.1)
  · exact h1

/-- Each operation, in the order given, may come up, and is free. -/
def lexG (md : Region.Mode) (ops : Array Oper) (m : Nat) : List Nat → Array Bool → Bool
  | [], _ => true
  | i :: rest, listed => (sready md ops m listed).contains i && sfree md ops m listed i && lexG md ops m rest (listed.setIfInBounds i true)

theorem lexG_in : ∀ (l : List Nat) (listed : Array Bool), lexG md ops m l listed = true → ∀ i ∈ l, ∃ o, ops[i]? = some o
  | [], _, _, _, h => by cases h
  | i :: l, listed, hB, j, hj => by
    simp only [lexG, Bool.and_eq_true] at hB
    rcases List.mem_cons.1 hj with rfl | hj
    · have h1 := hB.1.2
      unfold sfree at h1
      split at h1
      · cases h1
      · rename_i o ho; exact ⟨o, ho⟩
    · exact lexG_in l _ hB.2 j hj

theorem wpAnyG_lex {Z : ZK} (hC : ∀ w w', C w → Keep [] w w' → C w') (hn : ∀ w, C w → n0 ≤ w.heap.size) (hZ : Inv C n0 Z) (hsel : Region.noSelect ops = true) : ∀ (l : List Nat) (listed : Array Bool) (a : Act) (L : TNews), Few m listed l.length →
    lexG md ops m l listed = true → wpG P ops C n0 kd Z l a L → wpAnyG P md ops C n0 kd m Z l.length listed a L
  | [], _, _, _, _, _, h => h
  | i :: l, listed, a, L, hfew, hB, h => by
    simp only [lexG, Bool.and_eq_true, List.contains_iff_mem] at hB
    obtain ⟨⟨hr, hf⟩, hB'⟩ := hB
    obtain ⟨o, ho, hg⟩ := h
    have hr' : i ∈ sready md ops m listed := by simpa using hr
    obtain ⟨h1, him⟩ := mem_sready.1 hr'
    exact wpAnyG_first hC hn hZ ho (Region.noSelect_spec hsel) l.length listed a L hfew (sfree_spec ho hf) hr'
      (gStep_mono (fun a' L' _ h' => wpAnyG_lex hC hn hZ hsel l _ a' L' (hfew.step him (mem_ready.1 h1).1) hB' h') (wpAnyG_inv hZ _ _).prem hg)

/-! ### A stretch of a region, from k up to m, ahead of what waits for all of it -/

/-- The operations below k have come up, no others. -/
def lk (n k : Nat) : Array Bool := ((List.range n).map fun i => decide (i < k)).toArray

theorem lk_size (n k : Nat) : (lk n k).size = n := by simp [lk]
theorem lk_get {n k i : Nat} (d : Bool) (h : i < n) : (lk n k).getD i d = decide (i < k) := by
  simp [lk, h]
theorem lk_zero (n : Nat) : Array.replicate n false = lk n 0 := by
  apply Array.ext
  · simp [lk]
  · intro i h1 h2; simp [lk]
theorem lk_step {n k : Nat} : (lk n k).setIfInBounds k true = lk n (k + 1) := by
  apply Array.ext
  · simp [lk]
  · intro i h1 h2
    rw [Array.getElem_setIfInBounds (by simpa using h1)]
    have e : ∀ (j : Nat) (h : i < (lk n j).size), (lk n j)[i] = decide (i < j) := by intro j h; simp [lk]
    rw [e]
    split
    · rename_i h; subst h; rw [e]; simp
    · rename_i h; rw [e]; congr 1; apply propext; omega

/-- What is listed is closed under what it waits for. -/
def Dn (md : Region.Mode) (ops : Array Oper) (listed : Array Bool) : Prop :=
  ∀ i o, ops[i]? = some o → listed.getD i false = true → ∀ e ∈ o.after, Region.binds md e = true → listed.getD e.on false = true

theorem Dn.step {listed : Array Bool} {i : Nat} (h : Dn md ops listed) (hi : i ∈ Region.ready md ops listed) : Dn md ops (listed.setIfInBounds i true) := by
  intro j o ho hj e he hb
  obtain ⟨_, o', ho', hall⟩ := mem_ready.1 hi
  by_cases hij : i = j
  · subst hij
    rw [ho] at ho'; cases ho'
    exact getD_set_true (hall e he hb)
  · rw [getD_set_ne false hij] at hj
    exact getD_set_true (h j o ho hj e he hb)

/-- The direct waits of an operation, as bits. -/
def dmask (md : Region.Mode) (o : Oper) : Nat := o.after.toList.foldl (fun s e => if Region.binds md e then s ||| 2 ^ e.on else s) 0
def dmaskAt (md : Region.Mode) (ops : Array Oper) (i : Nat) : Nat := match ops[i]? with | some o => dmask md o | none => 0
def clStep (md : Region.Mode) (ops : Array Oper) (S : Nat) : Nat := (List.range ops.size).foldl (fun s i => if S.testBit i then s ||| dmaskAt md ops i else s) S
def clos (md : Region.Mode) (ops : Array Oper) : Nat → Nat → Nat
  | 0, S => S
  | f + 1, S => clos md ops f (clStep md ops S)

theorem dmask_spec (md : Region.Mode) (o : Oper) (b : Nat) (h : (dmask md o).testBit b = true) : ∃ e ∈ o.after, Region.binds md e = true ∧ e.on = b := by
  unfold dmask at h
  have key : ∀ (l : List Edge) (s : Nat), (l.foldl (fun s e => if Region.binds md e then s ||| 2 ^ e.on else s) s).testBit b = true → s.testBit b = true ∨ ∃ e ∈ l, Region.binds md e = true ∧ e.on = b := by
    intro l
    induction l with
    | nil => intro s h; exact .inl h
    | cons e l ih =>
      intro s h
      rcases ih _ h with h | ⟨e', he', hb⟩
      · dsimp only at h
        split at h
        · rename_i hb
          rw [Nat.testBit_or, Bool.or_eq_true] at h
          rcases h with h | h
          · exact .inl h
          · rw [Nat.testBit_two_pow] at h
            exact .inr ⟨e, List.mem_cons_self, hb, by simpa using h⟩
        · exact .inl h
      · exact .inr ⟨e', List.mem_cons_of_mem _ he', hb⟩
  rcases key _ _ h with h | ⟨e, he, hb⟩
  · simp at h
  · exact ⟨e, Array.mem_toList_iff.1 he, hb⟩

def Listed (listed : Array Bool) (S : Nat) : Prop := ∀ b, S.testBit b = true → listed.getD b false = true

theorem clStep_listed {listed : Array Bool} {S : Nat} (hd : Dn md ops listed) (h : Listed listed S) : Listed listed (clStep md ops S) := by
  unfold clStep
  have key : ∀ (l : List Nat) (s : Nat), Listed listed s → Listed listed (l.foldl (fun s i => if S.testBit i then s ||| dmaskAt md ops i else s) s) := by
    intro l
    induction l with
    | nil => intro s hs; exact hs
    | cons i l ih =>
      intro s hs
      apply ih
      dsimp only
      split
      · rename_i hi
        intro b hb
        rw [Nat.testBit_or, Bool.or_eq_true] at hb
        rcases hb with hb | hb
        · exact hs b hb
        · unfold dmaskAt at hb
          split at hb
          · rename_i o ho
            obtain ⟨e, he, hbi, rfl⟩ := dmask_spec md o b hb
            exact hd i o ho (h i hi) e he hbi
          · simp at hb
      · exact hs
  exact key _ _ h

theorem clos_listed {listed : Array Bool} (hd : Dn md ops listed) : ∀ (f S : Nat), Listed listed S → Listed listed (clos md ops f S)
  | 0, _, h => h
  | f + 1, _, h => clos_listed hd f _ (clStep_listed hd h)

/-- Nothing from m on comes up before all below m have. -/
def barB (md : Region.Mode) (ops : Array Oper) (f m : Nat) : Bool :=
  (List.range ops.size).all fun j => decide (j < m) ||
    (match ops[j]? with
     | some o => o.after.any (fun e => Region.binds md e && decide (m ≤ e.on) && decide (e.on < ops.size)) ||
        (let S := clos md ops f (dmask md o); (List.range m).all fun i => S.testBit i)
     | none => true)

def dnB (md : Region.Mode) (ops : Array Oper) (k : Nat) : Bool :=
  (List.range k).all fun i => match ops[i]? with
    | some o => o.after.all fun e => !Region.binds md e || (decide (e.on < k) && decide (e.on < ops.size))
    | none => true

theorem dnB_spec {k : Nat} (h : dnB md ops k = true) : Dn md ops (lk ops.size k) := by
  intro i o ho hi e he hb
  have hin : i < ops.size := (Array.getElem?_eq_some_iff.1 ho).1
  rw [lk_get false hin] at hi
  simp only [decide_eq_true_eq] at hi
  simp only [dnB, List.all_eq_true, List.mem_range] at h
  have := h i hi
  simp only [ho, Array.all_eq_true_iff_forall_mem] at this
  have := this e he
  simp only [hb, Bool.not_true, Bool.false_or, Bool.and_eq_true, decide_eq_true_eq] at this
  rw [lk_get false this.2]
  simpa using this.1

theorem barB_spec {f : Nat} (hB : barB md ops f m = true) {listed : Array Bool} (hsz : listed.size = ops.size) (hd : Dn md ops listed)
    (hup : ∀ i, m ≤ i → i < ops.size → listed.getD i true = false) {j : Nat} (hj : j ∈ Region.ready md ops listed) (hjm : m ≤ j) : ∀ i, i < m → listed.getD i false = true := by
  obtain ⟨_, o, ho, hall⟩ := mem_ready.1 hj
  have hjn : j < ops.size := (Array.getElem?_eq_some_iff.1 ho).1
  simp only [barB, List.all_eq_true, List.mem_range] at hB
  have := hB j hjn
  simp only [ho, Bool.or_eq_true, decide_eq_true_eq] at this
  rcases this with h | h | h
  · omega
  · rw [Array.any_eq_true'] at h
    obtain ⟨e, he, hb⟩ := h
    simp only [Bool.and_eq_true, decide_eq_true_eq] at hb
    have h1 := hall e he hb.1.1
    have h2 := hup e.on hb.1.2 hb.2
    have h3 : e.on < listed.size := by rw [hsz]; exact hb.2
    simp [h3] at h1 h2
    rw [h1] at h2; cases h2
  · intro i hi
    have hl : Listed listed (dmask md o) := by
      intro b hb
      obtain ⟨e, he, hbi, rfl⟩ := dmask_spec md o b hb
      exact hall e he hbi
    simp only [List.all_eq_true, List.mem_range] at h
    exact clos_listed hd f _ hl i (h i hi)
end

/-! ### The fence that lets everything in; ro: the loop in a round of which the code is walked -/
def FR (ro : Option Nat) : Fence := { Fence.wide with round := ro }
theorem FR_none : FR none = Fence.wide := rfl
theorem FR_fn {ro : Option Nat} (f : FuncId) : (FR ro).fn f := trivial
theorem FR_dep {ro : Option Nat} {n : Nat} : (FR ro).depth.isSome = true → 1 ≤ n := fun h => by cases h
theorem calls_FR {ro : Option Nat} {n : Nat} {P : Program} {f : FuncId} {args : Array Value} {w : World} {R : Ending → World → Prop} (h : Calls P f args w R) : CallsIn (FR ro) n P f args w R := by
  have h := (callsIn_wide (n := n)).2 h
  exact ⟨trivial, fun cs hr => h.2 cs (room_wide _)⟩
theorem calls_of_FR {n : Nat} {P : Program} {f : FuncId} {args : Array Value} {w : World} {R : Ending → World → Prop} (h : CallsIn (FR none) n P f args w R) : Calls P f args w R :=
  (callsIn_wide (n := n)).1 h

/-- What goes through without a deferred call goes through alike in a round. -/
def notDefer : Result Next → Prop
  | .ok (.defer _) _ => False
  | .ok _ _ => True
  | .halt _ _ => False
theorem semAt_run {ro : Option Nat} {o : Oper} {ρ : Operand → Value} {P : Program} {w : World} (h : notDefer ((execOp ρ o).run P w)) : (o.semAt ro ρ).run P w = (execOp ρ o).run P w := by
  by_cases hd : ∃ c, o.op = .defer c
  · obtain ⟨c, hc⟩ := hd
    exfalso
    unfold execOp at h
    rw [hc] at h
    simp only [Sem.run_bind] at h
    generalize (resolve ρ c o.type).run P w = r at h
    cases r with
    | ok d w' => simp [Result.andThen, notDefer] at h
    | halt x w' => simp [Result.andThen, notDefer] at h
  · rw [Oper.semAt_eq ro ρ o fun c hc => hd ⟨c, hc⟩]
theorem detUpon.not {P : Program} {w : World} {v : Value} {r : Result Next} (h : detUpon P w v r) : notDefer r := by
  cases r with
  | halt x w' => cases h
  | ok nx w' => cases nx <;> simp only [detUpon] at h <;> trivial
theorem memUpon.not {P : Program} {w : World} {φ : Value → News → Prop} {r : Result Next} (h : memUpon P w φ r) : notDefer r := by
  cases r with
  | halt x w' => cases h
  | ok nx w' => cases nx <;> simp only [memUpon] at h <;> trivial

section
variable {P : Program} {ops : Array Oper} {md : Region.Mode} {C : World → Prop} {n0 : Nat} {kd : Nat → Kind} {m : Nat} {ro : Option Nat}

theorem wpAny_of_G {f : Nat} {Z : ZK} {Q : Exit → Act → World → Prop} {n0 r : Nat} (hB : barB md ops f m = true) (hm : m ≤ ops.size) (hC : ∀ w w', C w → Keep [] w w' → C w') (hn : ∀ w, C w → n0 ≤ w.heap.size)
    (hZ : ∀ a L w, C w → HoldsL n0 L w → Z a L → wpAnyIn (FR ro) 0 P md ops Q r (lk ops.size m) a w) :
    ∀ (fuel : Nat) (listed : Array Bool) (a : Act) (L : TNews) (w : World), listed.size = ops.size → Dn md ops listed → (∀ i, m ≤ i → i < ops.size → listed.getD i true = false) →
      Few m listed fuel → C w → HoldsL n0 L w → wpAnyG P md ops C n0 kd m Z fuel listed a L → wpAnyIn (FR ro) 0 P md ops Q (fuel + r) listed a w := by
  intro fuel
  induction fuel with
  | zero =>
    intro listed a L w hsz hd hup hfew hCw hL h
    have : listed = lk ops.size m := by
      apply Array.ext
      · rw [hsz, lk_size]
      · intro i h1 h2
        have hin : i < ops.size := by rw [← hsz]; exact h1
        have e2 : (lk ops.size m)[i] = decide (i < m) := by simp [lk]
        rw [e2]
        rcases Nat.lt_or_ge i m with hi | hi
        · have := hfew [i]
          simp only [List.nodup_cons, List.not_mem_nil, not_false_eq_true, List.nodup_nil, and_self, List.mem_cons, or_false, forall_eq, List.length_cons, List.length_nil, Nat.zero_add, Nat.le_zero_eq, Nat.one_ne_zero, imp_false, true_implies, not_and] at this
          have := this hi
          have e3 : listed.getD i true = listed[i] := by simp [h1]
          rw [e3] at this
          simp [hi]
          simpa using this
        · have := hup i hi hin
          have e3 : listed.getD i true = listed[i] := by simp [h1]
          rw [e3] at this
          rw [this]
          simp; omega
    rw [this]
    have := hZ a L w hCw hL h
    simpa using this
  | succ fuel ih =>
    intro listed a L w hsz hd hup hfew hCw hL h
    obtain ⟨hne, hall⟩ := h ⟨w, hCw, hL⟩
    have hnf : ¬ ∀ i, i < m → listed.getD i false = true := by
      intro hf
      obtain ⟨x, hx⟩ := List.exists_mem_of_ne_nil _ hne
      obtain ⟨hx1, hxm⟩ := mem_sready.1 hx
      have h0 := (mem_ready.1 hx1).1
      have h1 := hf x hxm
      have hxn : x < listed.size := by rw [hsz]; omega
      simp [hxn] at h0 h1
      rw [h0] at h1; cases h1
    have harr : fuel + 1 + r = (fuel + r) + 1 := by omega
    rw [harr]
    refine ⟨fun h0 => ?_, fun i hi => ?_⟩
    · exfalso; apply hne; unfold sready; rw [h0]; rfl
    · have him : i < m := by
        rcases Nat.lt_or_ge i m with h' | h'
        · exact h'
        · exact (hnf (barB_spec hB hsz hd hup hi h')).elim
      obtain ⟨o, ho, hg⟩ := hall i (mem_sready.2 ⟨hi, him⟩)
      have hiun := (mem_ready.1 hi).1
      have next : ∀ a' L' w', C w' → HoldsL n0 L' w' → wpAnyG P md ops C n0 kd m Z fuel (listed.setIfInBounds i true) a' L' → wpAnyIn (FR ro) 0 P md ops Q (fuel + r) (listed.setIfInBounds i true) a' w' := by
        intro a' L' w' hC' hL' h'
        refine ih _ a' L' w' (by simpa using hsz) (hd.step hi) (fun j hj hjn => ?_) (hfew.step him hiun) hC' hL' h'
        rw [getD_set_ne true (by omega)]; exact hup j hj hjn
      have hg := hg ⟨w, hCw, hL⟩
      unfold wpOpIn
      simp only [ho]
      split
      · rename_i hw
        simp only [hw, if_true] at hg
        refine ⟨fun _ _ => trivial, ?_⟩
        obtain ⟨S, hS, hk⟩ := hg
        have hcl : CL ops C n0 o L w := CL_of hCw hL
        cases hkd : kd i with
        | det =>
          rw [hkd] at hS
          obtain ⟨v, hv, hSv⟩ := hS
          have := hv w hcl
          have hK := hk v [] ((hSv v []).2 rfl)
          rw [semAt_run this.not]
          generalize (execOp a.eval o).run P w = res at *
          cases res with
          | halt x w' => simp only [detUpon] at this
          | ok nx w' =>
            cases nx <;> simp only [detUpon] at this <;> simp only [Oper.uponIn]
            case value u => obtain ⟨rfl, rfl⟩ := this; exact next _ _ _ hCw hL hK
            case skip => obtain ⟨rfl, rfl⟩ := this; exact next _ _ _ hCw hL hK
            case enter f args =>
              obtain ⟨rfl, _, hc⟩ := this
              refine ⟨FR_dep, calls_FR (hc.mono fun e w'' ⟨he, hkp⟩ => by subst he; exact next _ _ _ (hC _ _ hCw hkp) (hL.keep hkp) hK)⟩
        | new =>
          rw [hkd] at hS
          obtain ⟨v, w', hr, hkp, hSv⟩ := hS w hcl
          rw [semAt_run (by rw [hr]; trivial), hr]
          exact next _ _ _ (hC w w' hCw hkp) (hL.add _ (hn w hCw) hkp) (hk _ _ hSv)
        | mem φ =>
          rw [hkd] at hS
          obtain ⟨hS1, hS2⟩ := hS
          have := hS2 w hcl
          rw [semAt_run this.not]
          generalize (execOp a.eval o).run P w = res at *
          cases res with
          | halt x w' => simp only [memUpon] at this
          | ok nx w' =>
            cases nx <;> simp only [memUpon] at this <;> simp only [Oper.uponIn]
            case value u => exact next _ _ _ (hC w w' hCw this.1) (hL.add _ (hn w hCw) this.1) (hk _ _ ((hS1 _ _).2 this.2))
            case enter f args =>
              obtain ⟨rfl, hc⟩ := this
              refine ⟨FR_dep, calls_FR (hc.mono fun e w'' ⟨v, he, hkp, hφ⟩ => by subst he; exact next _ _ _ (hC _ _ hCw hkp) (hL.add _ (hn _ hCw) hkp) (hk _ _ ((hS1 _ _).2 hφ)))⟩
      · rename_i hw
        simp only [hw] at hg
        exact ⟨fun _ _ => trivial, next _ _ _ hCw hL hg⟩

end
end Go.Eng
