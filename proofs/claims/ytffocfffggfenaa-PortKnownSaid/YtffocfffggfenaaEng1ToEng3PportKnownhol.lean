/-
  The texts Eng1 to Eng3, one after the other.
-/
import Derived.WalkKit
import Derived.Still
import Derived.OrdersIn
import Derived.RangeFuncRecord
/-
  The engine, part 1: what a call may leave behind in memory (Keep), and one order for a region that draws its order.
-/
namespace Go.Eng
open Go
structure Keep (S : List Nat) (w w' : World) : Prop where
  os : w'.os = w.os
  tape : w'.tape = w.tape
  output : w'.output = w.output
  size : w.heap.size ≤ w'.heap.size
  old : ∀ b, b < w.heap.size → b ∉ S → w'.heap[b]? = w.heap[b]?
theorem Keep.refl (S : List Nat) (w : World) : Keep S w w := ⟨rfl, rfl, rfl, Nat.le_refl _, fun _ _ _ => rfl⟩
theorem Keep.trans {S : List Nat} {a b c : World} (h : Keep S a b) (k : Keep S b c) : Keep S a c :=
  ⟨k.os.trans h.os, k.tape.trans h.tape, k.output.trans h.output, Nat.le_trans h.size k.size,
   fun i hi hs => (k.old i (Nat.lt_of_lt_of_le hi h.size) hs).trans (h.old i hi hs)⟩
theorem Keep.mono {S S' : List Nat} {w w' : World} (h : Keep S w w') (hs : ∀ b ∈ S, b ∈ S') : Keep S' w w' :=
  ⟨h.os, h.tape, h.output, h.size, fun b hb hn => h.old b hb fun hm => hn (hs b hm)⟩
theorem heap_lt {w : World} {b : Nat} {o : Obj} (h : w.heap[b]? = some o) : b < w.heap.size := by
  rcases Nat.lt_or_ge b w.heap.size with h' | h'
  · exact h'
  · simp [Array.getElem?_eq_none h'] at h
theorem Keep.block {S : List Nat} {w w' : World} (h : Keep S w w') {b : Nat} {o : Obj} (hb : w.heap[b]? = some o) (hs : b ∉ S) : w'.heap[b]? = some o :=
  (h.old b (heap_lt hb) hs).trans hb
theorem cell_lt {w : World} {a : Addr} {v : Value} (h : w.cell? a = some v) : a.block < w.heap.size := by
  unfold World.cell? at h
  split at h
  · rename_i hb; exact heap_lt hb
  · cases h
theorem cell_congr {w w' : World} {a : Addr} (h : w'.heap[a.block]? = w.heap[a.block]?) : w'.cell? a = w.cell? a := by
  unfold World.cell?; rw [h]
theorem Keep.cell {S : List Nat} {w w' : World} (h : Keep S w w') {a : Addr} {v : Value} (hc : w.cell? a = some v) (hs : a.block ∉ S) : w'.cell? a = some v := by
  rw [cell_congr (h.old a.block (cell_lt hc) hs), hc]
theorem Keep.alloc (S : List Nat) (w : World) (o : Obj) : Keep S w (w.alloc o) :=
  ⟨rfl, rfl, rfl, by simp, fun b hb _ => heap_alloc_old w o hb⟩
structure Grew (w w' : World) (ob : Option Obj) : Prop where
  os : w'.os = w.os
  tape : w'.tape = w.tape
  output : w'.output = w.output
  heap : w'.heap = w.heap ++ ob.toList.toArray
theorem Grew.keep {S : List Nat} {w w' : World} {ob : Option Obj} (h : Grew w w' ob) : Keep S w w' := by
  refine ⟨h.os, h.tape, h.output, by rw [h.heap]; simp, fun b hb _ => ?_⟩
  rw [h.heap, Array.getElem?_append_left hb]
theorem Grew.new {w w' : World} {o : Obj} (h : Grew w w' (some o)) : w'.heap[w.heap.size]? = some o := by
  rw [h.heap]; simp
theorem Grew.size {w w' : World} {o : Obj} (h : Grew w w' (some o)) : w'.heap.size = w.heap.size + 1 := by
  rw [h.heap]; simp
theorem Grew.alloc (w : World) (o : Obj) : Grew w (w.alloc o) (some o) :=
  ⟨rfl, rfl, rfl, by show w.heap.push o = _; simp⟩
theorem Grew.same (w : World) : Grew w w none := ⟨rfl, rfl, rfl, by simp⟩
/-! ### One order for all -/
theorem calls_agree {P : Program} {f : FuncId} {args : Array Value} {w : World} {v1 v2 : Value} (hi : P.inits.idxOf? f = none)
    (h1 : Calls P f args w fun e w' => e = .returned v1 ∧ Keep [] w w') (h2 : Calls P f args w fun e w' => e = .returned v2 ∧ Keep [] w w') : v1 = v2 := by
  have g1 : Calls P f args w fun | .returned v, _ => v = v1 | _, _ => False := h1.mono fun e w' ⟨he, _⟩ => by subst he; exact rfl
  have g2 : Calls P f args w fun | .returned v, _ => v = v2 | _, _ => False := h2.mono fun e w' ⟨he, _⟩ => by subst he; exact rfl
  obtain ⟨n, v, w3, e1, rfl⟩ := Calls.done (R := fun v _ => v = v1) g1 hi
  obtain ⟨m, u, w4, e2, rfl⟩ := Calls.done (R := fun v _ => v = v2) g2 hi
  have a : runN P (n + m) (lone (Frame.enter P f args .normal) [] w) = .ended (.done v) w3 := by rw [runN_add, e1]
  have b : runN P (m + n) (lone (Frame.enter P f args .normal) [] w) = .ended (.done u) w4 := by rw [runN_add, e2]
  rw [Nat.add_comm, a] at b
  injection b with ho hw
  injection ho with hv
def detUpon (P : Program) (w : World) (v : Value) : Result Next → Prop
  | .ok (.value u) w' => w' = w ∧ u = v
  | .ok .skip w' => w' = w ∧ v = undef
  | .ok (.enter f args) w' => w' = w ∧ P.inits.idxOf? f = none ∧ Calls P f args w (fun e w'' => e = .returned v ∧ Keep [] w w'')
  | _ => False
theorem detUpon.unique {P : Program} {w : World} {v1 v2 : Value} {r : Result Next} (h1 : detUpon P w v1 r) (h2 : detUpon P w v2 r) : v1 = v2 := by
  cases r with
  | halt x w' => cases h1
  | ok nx w' =>
    cases nx <;> simp only [detUpon] at h1 h2
    case value u => exact h1.2.symm.trans h2.2
    case skip => exact h1.2.trans h2.2.symm
    case enter f args => exact calls_agree h1.2.1 h1.2.2 h2.2.2
abbrev News := List (Nat × Obj)
def newsOf (w w' : World) : News := (List.range' w.heap.size (w'.heap.size - w.heap.size)).map fun i => (i, w'.heap.getD i (.cells #[] 0))
theorem newsOf_ids (w w' : World) : (newsOf w w').map (·.1) = List.range' w.heap.size (w'.heap.size - w.heap.size) := by
  simp [newsOf, List.map_map, Function.comp_def]
theorem newsOf_mem {w w' : World} {x : Nat × Obj} (h : x ∈ newsOf w w') : w.heap.size ≤ x.1 ∧ w'.heap[x.1]? = some x.2 := by
  obtain ⟨i, hi, rfl⟩ := List.mem_map.1 h
  rw [List.mem_range'_1] at hi
  have h2 : i < w'.heap.size := by omega
  exact ⟨hi.1, by simp [h2]⟩
theorem newsOf_one {w w' : World} {o : Obj} (h : Grew w w' (some o)) : newsOf w w' = [(w.heap.size, o)] := by
  have h1 := h.size
  have h2 := h.new
  unfold newsOf
  rw [h1, show w.heap.size + 1 - w.heap.size = 1 by omega]
  have h3 : w.heap.size < w'.heap.size := by omega
  have h4 : w'.heap.getD w.heap.size (.cells #[] 0) = o := by
    rw [Array.getElem?_eq_getElem h3] at h2
    injection h2 with h2
    simp [h3, h2]
  simp only [List.range'_one, List.map_cons, List.map_nil, h4]
inductive Kind where
  | det
  | new
  | mem (φ : Value → News → Prop)
def memUpon (P : Program) (w : World) (φ : Value → News → Prop) : Result Next → Prop
  | .ok (.value v) w' => Keep [] w w' ∧ φ v (newsOf w w')
  | .ok (.enter f args) w1 => w1 = w ∧ Calls P f args w (fun e w' => ∃ v, e = .returned v ∧ Keep [] w w' ∧ φ v (newsOf w w'))
  | _ => False
def Ok (P : Program) (C : World → Prop) (a : Act) (o : Oper) : Kind → (Value → News → Prop) → Prop
  | .det, S => ∃ v0, (∀ w, C w → detUpon P w v0 ((execOp a.eval o).run P w)) ∧ ∀ u nb, S u nb ↔ u = v0
  | .new, S => ∀ w, C w → ∃ v w', (execOp a.eval o).run P w = .ok (.value v) w' ∧ Keep [] w w' ∧ S v (newsOf w w')
  | .mem φ, S => (∀ u nb, S u nb ↔ φ u nb) ∧ ∀ w, C w → memUpon P w φ ((execOp a.eval o).run P w)
theorem Ok.inter {P : Program} {C : World → Prop} {a : Act} {o : Oper} {k : Kind} {ι : Type} {S : ι → Value → News → Prop} {J : ι → Prop} (i0 : ι) (h0 : J i0) (hC : ∃ w, C w) (h : ∀ i, J i → Ok P C a o k (S i)) :
    Ok P C a o k (fun u nb => ∀ i, J i → S i u nb) := by
  cases k with
  | det =>
    obtain ⟨v0, h1, h2⟩ := h i0 h0
    obtain ⟨w, hw⟩ := hC
    refine ⟨v0, h1, fun u nb => ⟨fun hu => (h2 u nb).1 (hu i0 h0), fun hu i hi => ?_⟩⟩
    obtain ⟨v1, g1, g2⟩ := h i hi
    rw [g2, hu]
    exact (h1 w hw).unique (g1 w hw)
  | new =>
    intro w hw
    obtain ⟨v, w', h1, h2, _⟩ := h i0 h0 w hw
    refine ⟨v, w', h1, h2, fun i hi => ?_⟩
    obtain ⟨u, w2, g1, _, g3⟩ := h i hi w hw
    rw [h1] at g1
    injection g1 with e1 e2
    injection e1 with e3
    subst e2; subst e3
    exact g3
  | mem φ =>
    obtain ⟨h1, h2⟩ := h i0 h0
    refine ⟨fun u nb => ⟨fun hu => (h1 u nb).1 (hu i0 h0), fun hu i hi => ((h i hi).1 u nb).2 hu⟩, h2⟩
theorem Ok.mono {P : Program} {C C' : World → Prop} {a : Act} {o : Oper} {k : Kind} {S : Value → News → Prop} (h : Ok P C a o k S) (hc : ∀ w, C' w → C w) : Ok P C' a o k S := by
  cases k with
  | det => obtain ⟨v0, h1, h2⟩ := h; exact ⟨v0, fun w hw => h1 w (hc w hw), h2⟩
  | new => exact fun w hw => h w (hc w hw)
  | mem φ => exact ⟨h.1, fun w hw => h.2 w (hc w hw)⟩
def SubP {α : Type} (l₁ l₂ : List α) : Prop := ∃ l : List α, l.Perm l₁ ∧ l.Sublist l₂
theorem SubP.refl {α : Type} (l : List α) : SubP l l := ⟨l, .refl _, .refl _⟩
theorem SubP.ofSub {α : Type} {l₁ l₂ : List α} (h : l₁.Sublist l₂) : SubP l₁ l₂ := ⟨l₁, .refl _, h⟩
theorem SubP.ofPerm {α : Type} {l₁ l₂ : List α} (h : l₁.Perm l₂) : SubP l₁ l₂ := ⟨l₂, h.symm, .refl _⟩
theorem SubP.subset {α : Type} {l₁ l₂ : List α} (h : SubP l₁ l₂) : ∀ x ∈ l₁, x ∈ l₂ := by
  obtain ⟨l, hp, hs⟩ := h
  exact fun x hx => hs.subset (hp.mem_iff.2 hx)
theorem SubP.append_left {α : Type} {l₁ l₂ : List α} (h : SubP l₁ l₂) (t : List α) : SubP (t ++ l₁) (t ++ l₂) := by
  obtain ⟨l, hp, hs⟩ := h
  exact ⟨t ++ l, hp.append_left _, hs.append_left _⟩
theorem SubP.filter {α : Type} {l₁ l₂ : List α} (h : SubP l₁ l₂) (p : α → Bool) : SubP (l₁.filter p) (l₂.filter p) := by
  obtain ⟨l, hp, hs⟩ := h
  exact ⟨l.filter p, hp.filter _, hs.filter _⟩
theorem SubP.trans {α : Type} {l₁ l₂ l₃ : List α} (h : SubP l₁ l₂) (k : SubP l₂ l₃) : SubP l₁ l₃ := by
  obtain ⟨l, hp, hs⟩ := h
  obtain ⟨m, kp, ks⟩ := k
  obtain ⟨n, np, ns⟩ := List.exists_perm_sublist hs kp.symm
  exact ⟨n, np.trans hp, ns.trans ks⟩
abbrev TNews := List (Option Tmp × (Nat × Obj))
def tagL (t : Option Tmp) (nb : News) : TNews := nb.map fun x => (t, x)
def restr (ops : Array Oper) (o : Oper) (L : TNews) : TNews := L.filter fun x => x.1.any fun t => (o.looksAt ops).contains t
structure HoldsL (n0 : Nat) (L : TNews) (w : World) : Prop where
  nodup : (L.map (·.2.1)).Nodup
  at_ : ∀ x ∈ L, n0 ≤ x.2.1 ∧ w.heap[x.2.1]? = some x.2.2
theorem HoldsL.nil (n0 : Nat) (w : World) : HoldsL n0 [] w := ⟨by simp, fun _ h => by cases h⟩
theorem HoldsL.sub {n0 : Nat} {L L' : TNews} {w : World} (h : HoldsL n0 L' w) (hs : SubP L L') : HoldsL n0 L w := by
  refine ⟨?_, fun x hx => h.at_ x (hs.subset x hx)⟩
  obtain ⟨l, hp, hl⟩ := hs
  exact (hp.map _).nodup_iff.1 ((hl.map _).nodup h.nodup)
theorem HoldsL.keep {n0 : Nat} {L : TNews} {w w' : World} (h : HoldsL n0 L w) (hk : Keep [] w w') : HoldsL n0 L w' :=
  ⟨h.nodup, fun x hx => ⟨(h.at_ x hx).1, hk.block (h.at_ x hx).2 (by simp)⟩⟩
theorem HoldsL.add {n0 : Nat} {L : TNews} {w w' : World} (t : Option Tmp) (h : HoldsL n0 L w) (hn : n0 ≤ w.heap.size) (hk : Keep [] w w') : HoldsL n0 (tagL t (newsOf w w') ++ L) w' := by
  have h' := h.keep hk
  have e : (tagL t (newsOf w w')).map (·.2.1) = List.range' w.heap.size (w'.heap.size - w.heap.size) := by
    rw [tagL, List.map_map, ← newsOf_ids]; rfl
  refine ⟨?_, fun x hx => ?_⟩
  · rw [List.map_append, e, List.nodup_append]
    refine ⟨List.nodup_range', h.nodup, fun i hi j hj => ?_⟩
    rw [List.mem_range'_1] at hi
    obtain ⟨x, hx, rfl⟩ := List.mem_map.1 hj
    have := heap_lt (h.at_ x hx).2
    omega
  · rcases List.mem_append.1 hx with hx | hx
    · obtain ⟨y, hy, rfl⟩ := List.mem_map.1 hx
      obtain ⟨g1, g2⟩ := newsOf_mem hy
      exact ⟨Nat.le_trans hn g1, g2⟩
    · exact h'.at_ x hx
theorem restr_sub (ops : Array Oper) (o : Oper) (L : TNews) : SubP (restr ops o L) L := .ofSub List.filter_sublist
theorem restr_app {ops : Array Oper} {o : Oper} {t : Option Tmp} (h : ∀ d, t = some d → d ∉ o.looksAt ops) (nb : News) (L : TNews) : restr ops o (tagL t nb ++ L) = restr ops o L := by
  unfold restr
  rw [List.filter_append]
  have : (tagL t nb).filter (fun x => x.1.any fun t => (o.looksAt ops).contains t) = [] := by
    rw [List.filter_eq_nil_iff]
    intro x hx
    obtain ⟨y, hy, rfl⟩ := List.mem_map.1 hx
    cases t with
    | none => simp
    | some d => simpa using h d rfl
  rw [this, List.nil_append]
theorem restr_mono {ops : Array Oper} {o : Oper} {L L' : TNews} (h : SubP L L') : SubP (restr ops o L) (restr ops o L') := h.filter _
section
variable {P : Program} {ops : Array Oper} {md : Region.Mode} {C : World → Prop} {n0 : Nat} {kd : Nat → Kind} {m : Nat}
abbrev ZK := Act → TNews → Prop
def Prem (C : World → Prop) (n0 : Nat) (L : TNews) : Prop := ∃ w, C w ∧ HoldsL n0 L w
theorem Prem.sub {L L' : TNews} (h : Prem C n0 L') (hs : SubP L L') : Prem C n0 L := by
  obtain ⟨w, h1, h2⟩ := h; exact ⟨w, h1, h2.sub hs⟩
def CL (ops : Array Oper) (C : World → Prop) (n0 : Nat) (o : Oper) (L : TNews) (w : World) : Prop := C w ∧ HoldsL n0 (restr ops o L) w
theorem CL_of {o : Oper} {L : TNews} {w : World} (h1 : C w) (h2 : HoldsL n0 L w) : CL ops C n0 o L w := ⟨h1, h2.sub (restr_sub _ _ _)⟩
def gStep (P : Program) (ops : Array Oper) (C : World → Prop) (n0 : Nat) (k : Kind) (o : Oper) (K : ZK) (a : Act) (L : TNews) : Prop :=
  Prem C n0 L → if Region.wanted o (yielded ops a.tmps) then
    (∃ S, Ok P (CL ops C n0 o L) a o k S ∧ ∀ v nb, S v nb → K (a.put o.dst v) (tagL o.dst nb ++ L))
  else K (a.put o.dst undef) L
theorem gStep_mono {k : Kind} {o : Oper} {K K' : ZK} (h : ∀ a L, Prem C n0 L → K a L → K' a L) (hK' : ∀ a L, (Prem C n0 L → K' a L) → K' a L) {a : Act} {L : TNews} (hh : gStep P ops C n0 k o K a L) : gStep P ops C n0 k o K' a L := by
  intro hp
  have hh := hh hp
  split
  · rename_i hw
    simp only [hw, if_true] at hh
    obtain ⟨S, h1, h2⟩ := hh
    exact ⟨S, h1, fun v nb hv => hK' _ _ fun hp' => h _ _ hp' (h2 v nb hv)⟩
  · rename_i hw; simp only [hw] at hh; exact h _ _ hp hh
structure Inv (C : World → Prop) (n0 : Nat) (K : ZK) : Prop where
  sub : ∀ a L L', SubP L L' → K a L → K a L'
  prem : ∀ a L, (Prem C n0 L → K a L) → K a L
theorem gStep_inv {k : Kind} {o : Oper} {K : ZK} (hK : Inv C n0 K) : Inv C n0 (gStep P ops C n0 k o K) := by
  refine ⟨fun a L L' hs hh hp => ?_, fun a L h hp => h hp hp⟩
  have hh := hh (hp.sub hs)
  split
  · rename_i hw
    simp only [hw, if_true] at hh
    obtain ⟨S, h1, h2⟩ := hh
    exact ⟨S, h1.mono fun w hw => ⟨hw.1, hw.2.sub (restr_mono hs)⟩, fun v nb hv => hK.sub _ _ _ (hs.append_left _) (h2 v nb hv)⟩
  · rename_i hw; simp only [hw] at hh; exact hK.sub _ _ _ hs hh
theorem Ok_put {k : Kind} {S : Value → News → Prop} {Cw : World → Prop} {o : Oper} (hs : ∀ cs b, o.op ≠ .select cs b) {a : Act} {d : Option Tmp} {u : Value} (h : ∀ t, d = some t → t ∉ o.looksAt ops) :
    Ok P Cw (a.put d u) o k S ↔ Ok P Cw a o k S := by
  unfold Ok; rw [execOp_put o hs a d u h]
theorem CL_app {o : Oper} {t : Option Tmp} (h : ∀ d, t = some d → d ∉ o.looksAt ops) (nb : News) (L : TNews) : CL ops C n0 o (tagL t nb ++ L) = CL ops C n0 o L := by
  funext w; unfold CL; rw [restr_app h]
theorem Ok.some {k : Kind} {S : Value → News → Prop} {o : Oper} {a : Act} {L : TNews} (hC : ∀ w w', C w → Keep [] w w' → C w') (hn : ∀ w, C w → n0 ≤ w.heap.size) (h : Ok P (CL ops C n0 o L) a o k S) (hp : Prem C n0 L) :
    ∃ v nb, S v nb ∧ Prem C n0 (tagL o.dst nb ++ L) := by
  obtain ⟨w, h1, h2⟩ := hp
  have hcl : CL ops C n0 o L w := CL_of h1 h2
  cases k with
  | det =>
    obtain ⟨v0, g1, g2⟩ := h
    exact ⟨v0, [], (g2 v0 []).2 rfl, w, h1, h2⟩
  | new =>
    obtain ⟨v, w', _, g2, g3⟩ := h w hcl
    exact ⟨v, _, g3, w', hC w w' h1 g2, h2.add _ (hn w h1) g2⟩
  | mem φ =>
    obtain ⟨g1, g2⟩ := h
    have g := g2 w hcl
    generalize (execOp a.eval o).run P w = res at g
    cases res with
    | halt x w' => cases g
    | ok nx w' =>
      cases nx <;> simp only [memUpon] at g
      case value v => exact ⟨v, _, (g1 _ _).2 g.2, w', hC w w' h1 g.1, h2.add _ (hn w h1) g.1⟩
      case enter f args =>
        obtain ⟨_, hc⟩ := g
        obtain ⟨e, w2, fr, ⟨v, rfl, g3, g4⟩, _⟩ := hc []
        exact ⟨v, _, (g1 _ _).2 g4, w2, hC w w2 h1 g3, h2.add _ (hn w h1) g3⟩
theorem gStep_swap {ki kj : Kind} {oi oj : Oper} (hC : ∀ w w', C w → Keep [] w w' → C w') (hn : ∀ w, C w → n0 ≤ w.heap.size) (hap : oi.apart ops oj = true)
    (hsi : ∀ cs b, oi.op ≠ .select cs b) (hsj : ∀ cs b, oj.op ≠ .select cs b) {K : ZK} (hK : Inv C n0 K) {a : Act} {L : TNews}
    (h : gStep P ops C n0 ki oi (gStep P ops C n0 kj oj K) a L) : gStep P ops C n0 kj oj (gStep P ops C n0 ki oi K) a L := by
  obtain ⟨h1, h2, h3⟩ := Oper.apart_spec hap
  intro hp
  have h := h hp
  unfold gStep at h ⊢
  simp only [wanted_put oj a oi.dst _ h1, Ok_put hsj h1, CL_app h1] at h
  simp only [wanted_put oi a oj.dst _ h3, Ok_put hsi h3, CL_app h3]
  by_cases wi : Region.wanted oi (yielded ops a.tmps) = true <;> by_cases wj : Region.wanted oj (yielded ops a.tmps) = true
  · simp only [wi, wj, if_true] at h ⊢
    obtain ⟨Si, hi1, hi2⟩ := h
    obtain ⟨v0, nb0, hS0, hp0⟩ := hi1.some hC hn hp
    have hch : ∀ i : {x : Value × News // Si x.1 x.2 ∧ Prem C n0 (tagL oi.dst x.2 ++ L)}, ∃ S, Ok P (CL ops C n0 oj L) a oj kj S ∧ ∀ u nb', S u nb' → K ((a.put oi.dst i.1.1).put oj.dst u) (tagL oj.dst nb' ++ (tagL oi.dst i.1.2 ++ L)) :=
      fun ⟨x, hx1, hx2⟩ => hi2 x.1 x.2 hx1 hx2
    obtain ⟨S, hS⟩ := Classical.axiomOfChoice hch
    obtain ⟨w0, g1, g2⟩ := hp
    refine ⟨fun u nb' => ∀ i, True → S i u nb', Ok.inter ⟨(v0, nb0), hS0, hp0⟩ trivial ⟨w0, CL_of g1 g2⟩ fun i _ => (hS i).1, fun u nb' hu hp1 => ⟨Si, hi1, fun v nb hv => hK.prem _ _ fun hp2 => ?_⟩⟩
    have hp3 : Prem C n0 (tagL oi.dst nb ++ L) := hp2.sub (.ofSub ((List.sublist_append_right _ _).append_left _))
    have := (hS ⟨(v, nb), hv, hp3⟩).2 u nb' (hu _ trivial)
    rw [← Act.put_comm a v u h2]
    refine hK.sub _ _ _ (.ofPerm ?_) this
    rw [← List.append_assoc, ← List.append_assoc]
    exact List.perm_append_comm.append_right _
  · simp only [wi, wj, if_true, Bool.false_eq_true, if_false] at h ⊢
    obtain ⟨Si, hi1, hi2⟩ := h
    refine fun _ => ⟨Si, hi1, fun v nb hv => hK.prem _ _ fun hp2 => ?_⟩
    rw [← Act.put_comm a v undef h2]
    exact hi2 v nb hv hp2
  · simp only [wi, wj, if_true, Bool.false_eq_true, if_false] at h ⊢
    obtain ⟨Sj, hj1, hj2⟩ := h hp
    refine ⟨Sj, hj1, fun v nb hv hp2 => ?_⟩
    rw [← Act.put_comm a undef v h2]; exact hj2 v nb hv
  · simp only [wi, wj, Bool.false_eq_true, if_false] at h ⊢
    intro _
    rw [← Act.put_comm a undef undef h2]; exact h hp
def sready (md : Region.Mode) (ops : Array Oper) (m : Nat) (listed : Array Bool) : List Nat := (Region.ready md ops listed).filter (· < m)
theorem mem_sready {i : Nat} {listed : Array Bool} : i ∈ sready md ops m listed ↔ i ∈ Region.ready md ops listed ∧ i < m := by
  simp [sready]
def wpAnyG (P : Program) (md : Region.Mode) (ops : Array Oper) (C : World → Prop) (n0 : Nat) (kd : Nat → Kind) (m : Nat) (Z : ZK) : Nat → Array Bool → ZK
  | 0, _, a, L => Z a L
  | fuel + 1, listed, a, L => Prem C n0 L → sready md ops m listed ≠ [] ∧ ∀ i ∈ sready md ops m listed, ∃ o, ops[i]? = some o ∧ gStep P ops C n0 (kd i) o (wpAnyG P md ops C n0 kd m Z fuel (listed.setIfInBounds i true)) a L
theorem wpAnyG_inv {Z : ZK} (hZ : Inv C n0 Z) : ∀ (fuel : Nat) (listed : Array Bool), Inv C n0 (wpAnyG P md ops C n0 kd m Z fuel listed) := by
  intro fuel
  induction fuel with
  | zero => intro listed; exact hZ
  | succ fuel ih =>
    intro listed
    refine ⟨fun a L L' hs h hp => ?_, fun a L h hp => h hp hp⟩
    obtain ⟨h1, h2⟩ := h (hp.sub hs)
    refine ⟨h1, fun i hi => ?_⟩
    obtain ⟨o, ho, hg⟩ := h2 i hi
    exact ⟨o, ho, (gStep_inv (ih _)).sub _ _ _ hs hg⟩
def Few (m : Nat) (listed : Array Bool) (k : Nat) : Prop := ∀ l : List Nat, l.Nodup → (∀ j ∈ l, j < m ∧ listed.getD j true = false) → l.length ≤ k
theorem getD_set_self {listed : Array Bool} {j : Nat} : (listed.setIfInBounds j true).getD j true = true := by
  rcases Nat.lt_or_ge j listed.size with h | h
  · simp [h]
  · simp
theorem Few.step {listed : Array Bool} {k j : Nat} (h : Few m listed (k + 1)) (hj : j < m) (hu : listed.getD j true = false) : Few m (listed.setIfInBounds j true) k := by
  intro l hl ha
  have hn : j ∉ l := fun hm => by have := (ha j hm).2; rw [getD_set_self] at this; cases this
  have := h (j :: l) (List.nodup_cons.2 ⟨hn, hl⟩) (fun x hx => by
    rcases List.mem_cons.1 hx with rfl | hx
    · exact ⟨hj, hu⟩
    · refine ⟨(ha x hx).1, ?_⟩
      have hne : j ≠ x := fun e => hn (e ▸ hx)
      have := (ha x hx).2
      rwa [getD_set_ne true hne] at this)
  simpa using this
theorem wpAnyG_first {Z : ZK} (hC : ∀ w w', C w → Keep [] w w' → C w') (hn : ∀ w, C w → n0 ≤ w.heap.size) (hZ : Inv C n0 Z) {i : Nat} {oi : Oper} (hi : ops[i]? = some oi) (hsel : ∀ (j : Nat) (o : Oper) cs b, ops[j]? = some o → o.op ≠ .select cs b) :
    ∀ (fuel : Nat) (listed : Array Bool) (a : Act) (L : TNews), Few m listed (fuel + 1) →
      (∀ j oj, ops[j]? = some oj → j < m → j ≠ i → listed.getD j true = false → (∀ e ∈ oj.after, Region.binds md e = true → e.on ≠ i) → oi.apart ops oj = true) →
      i ∈ sready md ops m listed → gStep P ops C n0 (kd i) oi (wpAnyG P md ops C n0 kd m Z fuel (listed.setIfInBounds i true)) a L →
      wpAnyG P md ops C n0 kd m Z (fuel + 1) listed a L := by
  intro fuel
  induction fuel with
  | zero =>
    intro listed a L hfew _ hr H _
    refine ⟨fun h0 => (by rw [h0] at hr; cases hr), fun j hj => ?_⟩
    by_cases hji : j = i
    · subst hji; exact ⟨oi, hi, H⟩
    · obtain ⟨hj1, hjm⟩ := mem_sready.1 hj
      obtain ⟨hi1, him⟩ := mem_sready.1 hr
      have := hfew [i, j] (by simp [Ne.symm hji]) (by
        intro x hx
        rcases List.mem_cons.1 hx with rfl | hx
        · exact ⟨him, (mem_ready.1 hi1).1⟩
        · rcases List.mem_cons.1 hx with rfl | hx
          · exact ⟨hjm, (mem_ready.1 hj1).1⟩
          · cases hx)
      simp at this
  | succ fuel ih =>
    intro listed a L hfew hfree hr H hp0
    refine ⟨fun h0 => (by rw [h0] at hr; cases hr), fun j hj => ?_⟩
    by_cases hji : j = i
    · subst hji; exact ⟨oi, hi, H⟩
    · obtain ⟨hj1, hjm⟩ := mem_sready.1 hj
      obtain ⟨hi1, him⟩ := mem_sready.1 hr
      obtain ⟨hjun, oj, hoj, hall⟩ := mem_ready.1 hj1
      have hiun := (mem_ready.1 hi1).1
      have hnot : ∀ e ∈ oj.after, Region.binds md e = true → e.on ≠ i := fun e he hb heq => by
        have h1 := hall e he hb
        rw [heq] at h1
        rcases Nat.lt_or_ge i listed.size with h' | h'
        · simp [h'] at hiun h1; rw [hiun] at h1; cases h1
        · simp [Array.getElem?_eq_none h'] at h1
      have hap := hfree j oj hoj hjm hji hjun hnot
      have hInv := wpAnyG_inv (P := P) (md := md) (ops := ops) (kd := kd) (m := m) hZ fuel ((listed.setIfInBounds i true).setIfInBounds j true)
      have h1 : gStep P ops C n0 (kd i) oi (gStep P ops C n0 (kd j) oj (wpAnyG P md ops C n0 kd m Z fuel ((listed.setIfInBounds i true).setIfInBounds j true))) a L :=
        gStep_mono (fun a' L' hp h' => by
          obtain ⟨o, ho, hg⟩ := (h' hp).2 j (mem_sready.2 ⟨ready_mono hj1 hji, hjm⟩)
          rw [hoj] at ho
          cases ho
          exact hg) (gStep_inv hInv).prem H
      have h2 := gStep_swap hC hn hap (fun cs b => hsel i oi cs b hi) (fun cs b => hsel j oj cs b hoj) hInv h1
      have hfree' : ∀ k ok, ops[k]? = some ok → k < m → k ≠ i → (listed.setIfInBounds j true).getD k true = false →
          (∀ e ∈ ok.after, Region.binds md e = true → e.on ≠ i) → oi.apart ops ok = true := fun k ok hk hkm hki hun hno => by
        refine hfree k ok hk hkm hki ?_ hno
        by_cases hjk : j = k
        · subst hjk; exact hjun
        · rw [getD_set_ne true hjk] at hun; exact hun
      refine ⟨oj, hoj, gStep_mono (fun a' L' _ h3 => ih (listed.setIfInBounds j true) a' L' (hfew.step hjm hjun) hfree' (mem_sready.2 ⟨ready_mono hi1 (Ne.symm hji), him⟩) ?_) (wpAnyG_inv hZ _ _).prem h2⟩
      rw [Array.setIfInBounds_comm _ _ hji]
      exact h3
/-! ### The order that is walked: given as a list of indices -/
def wpG (P : Program) (ops : Array Oper) (C : World → Prop) (n0 : Nat) (kd : Nat → Kind) (Z : ZK) : List Nat → ZK
  | [], a, L => Z a L
  | i :: rest, a, L => ∃ o, ops[i]? = some o ∧ gStep P ops C n0 (kd i) o (wpG P ops C n0 kd Z rest) a L
theorem wpG_inv {Z : ZK} (hZ : Inv C n0 Z) : ∀ l : List Nat, (∀ i ∈ l, ∃ o, ops[i]? = some o) → Inv C n0 (wpG P ops C n0 kd Z l)
  | [], _ => hZ
  | i :: l, hl => by
    obtain ⟨o, ho⟩ := hl i List.mem_cons_self
    have ih := gStep_inv (P := P) (ops := ops) (k := kd i) (o := o) (wpG_inv hZ l fun j hj => hl j (List.mem_cons_of_mem _ hj))
    refine ⟨fun a L L' hs ⟨o', ho', h⟩ => ?_, fun a L h => ⟨o, ho, ih.prem _ _ fun hp => ?_⟩⟩
    · rw [ho] at ho'; cases ho'
      exact ⟨o, ho, ih.sub _ _ _ hs h⟩
    · obtain ⟨o', ho', h⟩ := h hp
      rw [ho] at ho'; cases ho'
      exact h
def sfree (md : Region.Mode) (ops : Array Oper) (m : Nat) (listed : Array Bool) (i : Nat) : Bool :=
  match ops[i]? with
  | none => false
  | some oi => (List.range m).all fun j => j == i || listed.getD j true || match ops[j]? with
      | some oj => oj.after.any (fun e => Region.binds md e && e.on == i) || oi.apart ops oj
      | none => true
theorem sfree_spec {i : Nat} {oi : Oper} {listed : Array Bool} (hi : ops[i]? = some oi) (h : sfree md ops m listed i = true) (j : Nat) (oj : Oper)
    (hj : ops[j]? = some oj) (hjm : j < m) (hne : j ≠ i) (hun : listed.getD j true = false) (hno : ∀ e ∈ oj.after, Region.binds md e = true → e.on ≠ i) :
    oi.apart ops oj = true := by
  simp only [sfree, hi, List.all_eq_true, List.mem_range] at h
  have h1 := h j hjm
  simp only [hj, Bool.or_eq_true, beq_iff_eq, hne, false_or, hun, Bool.false_eq_true] at h1
  rcases h1 with h1 | h1
  · rw [Array.any_eq_true'] at h1
    obtain ⟨e, he, hb⟩ := h1
    simp only [Bool.and_eq_true, beq_iff_eq] at hb
    exact absurd hb.2 (hno e he hb.1)
  · exact h1
def lexG (md : Region.Mode) (ops : Array Oper) (m : Nat) : List Nat → Array Bool → Bool
  | [], _ => true
  | i :: rest, listed => (sready md ops m listed).contains i && sfree md ops m listed i && lexG md ops m rest (listed.setIfInBounds i true)
theorem lexG_in : ∀ (l : List Nat) (listed : Array Bool), lexG md ops m l listed = true → ∀ i ∈ l, ∃ o, ops[i]? = some o
  | [], _, _, _, h => by cases h
  | i :: l, listed, hB, j, hj => by
    simp only [lexG, Bool.and_eq_true] at hB
    rcases List.mem_cons.1 hj with rfl | hj
    · have h1 := hB.1.2
      unfold sfree at h1
      split at h1
      · cases h1
      · rename_i o ho; exact ⟨o, ho⟩
    · exact lexG_in l _ hB.2 j hj
theorem wpAnyG_lex {Z : ZK} (hC : ∀ w w', C w → Keep [] w w' → C w') (hn : ∀ w, C w → n0 ≤ w.heap.size) (hZ : Inv C n0 Z) (hsel : Region.noSelect ops = true) : ∀ (l : List Nat) (listed : Array Bool) (a : Act) (L : TNews), Few m listed l.length →
    lexG md ops m l listed = true → wpG P ops C n0 kd Z l a L → wpAnyG P md ops C n0 kd m Z l.length listed a L
  | [], _, _, _, _, _, h => h
  | i :: l, listed, a, L, hfew, hB, h => by
    simp only [lexG, Bool.and_eq_true, List.contains_iff_mem] at hB
    obtain ⟨⟨hr, hf⟩, hB'⟩ := hB
    obtain ⟨o, ho, hg⟩ := h
    have hr' : i ∈ sready md ops m listed := by simpa using hr
    obtain ⟨h1, him⟩ := mem_sready.1 hr'
    exact wpAnyG_first hC hn hZ ho (Region.noSelect_spec hsel) l.length listed a L hfew (sfree_spec ho hf) hr'
      (gStep_mono (fun a' L' _ h' => wpAnyG_lex hC hn hZ hsel l _ a' L' (hfew.step him (mem_ready.1 h1).1) hB' h') (wpAnyG_inv hZ _ _).prem hg)
/-! ### A stretch of a region, from k up to m, ahead of what waits for all of it -/
def lk (n k : Nat) : Array Bool := ((List.range n).map fun i => decide (i < k)).toArray
theorem lk_size (n k : Nat) : (lk n k).size = n := by simp [lk]
theorem lk_get {n k i : Nat} (d : Bool) (h : i < n) : (lk n k).getD i d = decide (i < k) := by
  simp [lk, h]
theorem lk_zero (n : Nat) : Array.replicate n false = lk n 0 := by
  apply Array.ext
  · simp [lk]
  · intro i h1 h2; simp [lk]
theorem lk_step {n k : Nat} : (lk n k).setIfInBounds k true = lk n (k + 1) := by
  apply Array.ext
  · simp [lk]
  · intro i h1 h2
    rw [Array.getElem_setIfInBounds (by simpa using h1)]
    have e : ∀ (j : Nat) (h : i < (lk n j).size), (lk n j)[i] = decide (i < j) := by intro j h; simp [lk]
    rw [e]
    split
    · rename_i h; subst h; rw [e]; simp
    · rename_i h; rw [e]; congr 1; apply propext; omega
def Dn (md : Region.Mode) (ops : Array Oper) (listed : Array Bool) : Prop :=
  ∀ i o, ops[i]? = some o → listed.getD i false = true → ∀ e ∈ o.after, Region.binds md e = true → listed.getD e.on false = true
theorem Dn.step {listed : Array Bool} {i : Nat} (h : Dn md ops listed) (hi : i ∈ Region.ready md ops listed) : Dn md ops (listed.setIfInBounds i true) := by
  intro j o ho hj e he hb
  obtain ⟨_, o', ho', hall⟩ := mem_ready.1 hi
  by_cases hij : i = j
  · subst hij
    rw [ho] at ho'; cases ho'
    exact getD_set_true (hall e he hb)
  · rw [getD_set_ne false hij] at hj
    exact getD_set_true (h j o ho hj e he hb)
def dmask (md : Region.Mode) (o : Oper) : Nat := o.after.toList.foldl (fun s e => if Region.binds md e then s ||| 2 ^ e.on else s) 0
def dmaskAt (md : Region.Mode) (ops : Array Oper) (i : Nat) : Nat := match ops[i]? with | some o => dmask md o | none => 0
def clStep (md : Region.Mode) (ops : Array Oper) (S : Nat) : Nat := (List.range ops.size).foldl (fun s i => if S.testBit i then s ||| dmaskAt md ops i else s) S
def clos (md : Region.Mode) (ops : Array Oper) : Nat → Nat → Nat
  | 0, S => S
  | f + 1, S => clos md ops f (clStep md ops S)
theorem dmask_spec (md : Region.Mode) (o : Oper) (b : Nat) (h : (dmask md o).testBit b = true) : ∃ e ∈ o.after, Region.binds md e = true ∧ e.on = b := by
  unfold dmask at h
  have key : ∀ (l : List Edge) (s : Nat), (l.foldl (fun s e => if Region.binds md e then s ||| 2 ^ e.on else s) s).testBit b = true → s.testBit b = true ∨ ∃ e ∈ l, Region.binds md e = true ∧ e.on = b := by
    intro l
    induction l with
    | nil => intro s h; exact .inl h
    | cons e l ih =>
      intro s h
      rcases ih _ h with h | ⟨e', he', hb⟩
      · dsimp only at h
        split at h
        · rename_i hb
          rw [Nat.testBit_or, Bool.or_eq_true] at h
          rcases h with h | h
          · exact .inl h
          · rw [Nat.testBit_two_pow] at h
            exact .inr ⟨e, List.mem_cons_self, hb, by simpa using h⟩
        · exact .inl h
      · exact .inr ⟨e', List.mem_cons_of_mem _ he', hb⟩
  rcases key _ _ h with h | ⟨e, he, hb⟩
  · simp at h
  · exact ⟨e, Array.mem_toList_iff.1 he, hb⟩
def Listed (listed : Array Bool) (S : Nat) : Prop := ∀ b, S.testBit b = true → listed.getD b false = true
theorem clStep_listed {listed : Array Bool} {S : Nat} (hd : Dn md ops listed) (h : Listed listed S) : Listed listed (clStep md ops S) := by
  unfold clStep
  have key : ∀ (l : List Nat) (s : Nat), Listed listed s → Listed listed (l.foldl (fun s i => if S.testBit i then s ||| dmaskAt md ops i else s) s) := by
    intro l
    induction l with
    | nil => intro s hs; exact hs
    | cons i l ih =>
      intro s hs
      apply ih
      dsimp only
      split
      · rename_i hi
        intro b hb
        rw [Nat.testBit_or, Bool.or_eq_true] at hb
        rcases hb with hb | hb
        · exact hs b hb
        · unfold dmaskAt at hb
          split at hb
          · rename_i o ho
            obtain ⟨e, he, hbi, rfl⟩ := dmask_spec md o b hb
            exact hd i o ho (h i hi) e he hbi
          · simp at hb
      · exact hs
  exact key _ _ h
theorem clos_listed {listed : Array Bool} (hd : Dn md ops listed) : ∀ (f S : Nat), Listed listed S → Listed listed (clos md ops f S)
  | 0, _, h => h
  | f + 1, _, h => clos_listed hd f _ (clStep_listed hd h)
def barB (md : Region.Mode) (ops : Array Oper) (f m : Nat) : Bool :=
  (List.range ops.size).all fun j => decide (j < m) ||
    (match ops[j]? with
     | some o => o.after.any (fun e => Region.binds md e && decide (m ≤ e.on) && decide (e.on < ops.size)) ||
        (let S := clos md ops f (dmask md o); (List.range m).all fun i => S.testBit i)
     | none => true)
def dnB (md : Region.Mode) (ops : Array Oper) (k : Nat) : Bool :=
  (List.range k).all fun i => match ops[i]? with
    | some o => o.after.all fun e => !Region.binds md e || (decide (e.on < k) && decide (e.on < ops.size))
    | none => true
theorem dnB_spec {k : Nat} (h : dnB md ops k = true) : Dn md ops (lk ops.size k) := by
  intro i o ho hi e he hb
  have hin : i < ops.size := (Array.getElem?_eq_some_iff.1 ho).1
  rw [lk_get false hin] at hi
  simp only [decide_eq_true_eq] at hi
  simp only [dnB, List.all_eq_true, List.mem_range] at h
  have := h i hi
  simp only [ho, Array.all_eq_true_iff_forall_mem] at this
  have := this e he
  simp only [hb, Bool.not_true, Bool.false_or, Bool.and_eq_true, decide_eq_true_eq] at this
  rw [lk_get false this.2]
  simpa using this.1
theorem barB_spec {f : Nat} (hB : barB md ops f m = true) {listed : Array Bool} (hsz : listed.size = ops.size) (hd : Dn md ops listed)
    (hup : ∀ i, m ≤ i → i < ops.size → listed.getD i true = false) {j : Nat} (hj : j ∈ Region.ready md ops listed) (hjm : m ≤ j) : ∀ i, i < m → listed.getD i false = true := by
  obtain ⟨_, o, ho, hall⟩ := mem_ready.1 hj
  have hjn : j < ops.size := (Array.getElem?_eq_some_iff.1 ho).1
  simp only [barB, List.all_eq_true, List.mem_range] at hB
  have := hB j hjn
  simp only [ho, Bool.or_eq_true, decide_eq_true_eq] at this
  rcases this with h | h | h
  · omega
  · rw [Array.any_eq_true'] at h
    obtain ⟨e, he, hb⟩ := h
    simp only [Bool.and_eq_true, decide_eq_true_eq] at hb
    have h1 := hall e he hb.1.1
    have h2 := hup e.on hb.1.2 hb.2
    have h3 : e.on < listed.size := by rw [hsz]; exact hb.2
    simp [h3] at h1 h2
    rw [h1] at h2; cases h2
  · intro i hi
    have hl : Listed listed (dmask md o) := by
      intro b hb
      obtain ⟨e, he, hbi, rfl⟩ := dmask_spec md o b hb
      exact hall e he hbi
    simp only [List.all_eq_true, List.mem_range] at h
    exact clos_listed hd f _ hl i (h i hi)
end
/-! ### The fence that lets everything in; ro: the loop in a round of which the code is walked -/
def FR (ro : Option Nat) : Fence := { Fence.wide with round := ro }
theorem FR_dep {ro : Option Nat} {n : Nat} : (FR ro).depth.isSome = true → 1 ≤ n := fun h => by cases h
theorem calls_FR {ro : Option Nat} {n : Nat} {P : Program} {f : FuncId} {args : Array Value} {w : World} {R : Ending → World → Prop} (h : Calls P f args w R) : CallsIn (FR ro) n P f args w R := by
  have h := (callsIn_wide (n := n)).2 h
  exact ⟨trivial, fun cs hr => h.2 cs (room_wide _)⟩
theorem calls_of_FR {n : Nat} {P : Program} {f : FuncId} {args : Array Value} {w : World} {R : Ending → World → Prop} (h : CallsIn (FR none) n P f args w R) : Calls P f args w R :=
  (callsIn_wide (n := n)).1 h
def notDefer : Result Next → Prop
  | .ok (.defer _) _ => False
  | .ok _ _ => True
  | .halt _ _ => False
theorem semAt_run {ro : Option Nat} {o : Oper} {ρ : Operand → Value} {P : Program} {w : World} (h : notDefer ((execOp ρ o).run P w)) : (o.semAt ro ρ).run P w = (execOp ρ o).run P w := by
  by_cases hd : ∃ c, o.op = .defer c
  · obtain ⟨c, hc⟩ := hd
    exfalso
    unfold execOp at h
    rw [hc] at h
    simp only [Sem.run_bind] at h
    generalize (resolve ρ c o.type).run P w = r at h
    cases r with
    | ok d w' => simp [Result.andThen, notDefer] at h
    | halt x w' => simp [Result.andThen, notDefer] at h
  · rw [Oper.semAt_eq ro ρ o fun c hc => hd ⟨c, hc⟩]
theorem detUpon.not {P : Program} {w : World} {v : Value} {r : Result Next} (h : detUpon P w v r) : notDefer r := by
  cases r with
  | halt x w' => cases h
  | ok nx w' => cases nx <;> simp only [detUpon] at h <;> trivial
theorem memUpon.not {P : Program} {w : World} {φ : Value → News → Prop} {r : Result Next} (h : memUpon P w φ r) : notDefer r := by
  cases r with
  | halt x w' => cases h
  | ok nx w' => cases nx <;> simp only [memUpon] at h <;> trivial
section
variable {P : Program} {ops : Array Oper} {md : Region.Mode} {C : World → Prop} {n0 : Nat} {kd : Nat → Kind} {m : Nat} {ro : Option Nat}
theorem wpAny_of_G {f : Nat} {Z : ZK} {Q : Exit → Act → World → Prop} {n0 r : Nat} (hB : barB md ops f m = true) (hm : m ≤ ops.size) (hC : ∀ w w', C w → Keep [] w w' → C w') (hn : ∀ w, C w → n0 ≤ w.heap.size)
    (hZ : ∀ a L w, C w → HoldsL n0 L w → Z a L → wpAnyIn (FR ro) 0 P md ops Q r (lk ops.size m) a w) :
    ∀ (fuel : Nat) (listed : Array Bool) (a : Act) (L : TNews) (w : World), listed.size = ops.size → Dn md ops listed → (∀ i, m ≤ i → i < ops.size → listed.getD i true = false) →
      Few m listed fuel → C w → HoldsL n0 L w → wpAnyG P md ops C n0 kd m Z fuel listed a L → wpAnyIn (FR ro) 0 P md ops Q (fuel + r) listed a w := by
  intro fuel
  induction fuel with
  | zero =>
    intro listed a L w hsz hd hup hfew hCw hL h
    have : listed = lk ops.size m := by
      apply Array.ext
      · rw [hsz, lk_size]
      · intro i h1 h2
        have hin : i < ops.size := by rw [← hsz]; exact h1
        have e2 : (lk ops.size m)[i] = decide (i < m) := by simp [lk]
        rw [e2]
        rcases Nat.lt_or_ge i m with hi | hi
        · have := hfew [i]
          simp only [List.nodup_cons, List.not_mem_nil, not_false_eq_true, List.nodup_nil, and_self, List.mem_cons, or_false, forall_eq, List.length_cons, List.length_nil, Nat.zero_add, Nat.le_zero_eq, Nat.one_ne_zero, imp_false, true_implies, not_and] at this
          have := this hi
          have e3 : listed.getD i true = listed[i] := by simp [h1]
          rw [e3] at this
          simp [hi]
          simpa using this
        · have := hup i hi hin
          have e3 : listed.getD i true = listed[i] := by simp [h1]
          rw [e3] at this
          rw [this]
          simp; omega
    rw [this]
    have := hZ a L w hCw hL h
    simpa using this
  | succ fuel ih =>
    intro listed a L w hsz hd hup hfew hCw hL h
    obtain ⟨hne, hall⟩ := h ⟨w, hCw, hL⟩
    have hnf : ¬ ∀ i, i < m → listed.getD i false = true := by
      intro hf
      obtain ⟨x, hx⟩ := List.exists_mem_of_ne_nil _ hne
      obtain ⟨hx1, hxm⟩ := mem_sready.1 hx
      have h0 := (mem_ready.1 hx1).1
      have h1 := hf x hxm
      have hxn : x < listed.size := by rw [hsz]; omega
      simp [hxn] at h0 h1
      rw [h0] at h1; cases h1
    have harr : fuel + 1 + r = (fuel + r) + 1 := by omega
    rw [harr]
    refine ⟨fun h0 => ?_, fun i hi => ?_⟩
    · exfalso; apply hne; unfold sready; rw [h0]; rfl
    · have him : i < m := by
        rcases Nat.lt_or_ge i m with h' | h'
        · exact h'
        · exact (hnf (barB_spec hB hsz hd hup hi h')).elim
      obtain ⟨o, ho, hg⟩ := hall i (mem_sready.2 ⟨hi, him⟩)
      have hiun := (mem_ready.1 hi).1
      have next : ∀ a' L' w', C w' → HoldsL n0 L' w' → wpAnyG P md ops C n0 kd m Z fuel (listed.setIfInBounds i true) a' L' → wpAnyIn (FR ro) 0 P md ops Q (fuel + r) (listed.setIfInBounds i true) a' w' := by
        intro a' L' w' hC' hL' h'
        refine ih _ a' L' w' (by simpa using hsz) (hd.step hi) (fun j hj hjn => ?_) (hfew.step him hiun) hC' hL' h'
        rw [getD_set_ne true (by omega)]; exact hup j hj hjn
      have hg := hg ⟨w, hCw, hL⟩
      unfold wpOpIn
      simp only [ho]
      split
      · rename_i hw
        simp only [hw, if_true] at hg
        refine ⟨fun _ _ => trivial, ?_⟩
        obtain ⟨S, hS, hk⟩ := hg
        have hcl : CL ops C n0 o L w := CL_of hCw hL
        cases hkd : kd i with
        | det =>
          rw [hkd] at hS
          obtain ⟨v, hv, hSv⟩ := hS
          have := hv w hcl
          have hK := hk v [] ((hSv v []).2 rfl)
          rw [semAt_run this.not]
          generalize (execOp a.eval o).run P w = res at *
          cases res with
          | halt x w' => simp only [detUpon] at this
          | ok nx w' =>
            cases nx <;> simp only [detUpon] at this <;> simp only [Oper.uponIn]
            case value u => obtain ⟨rfl, rfl⟩ := this; exact next _ _ _ hCw hL hK
            case skip => obtain ⟨rfl, rfl⟩ := this; exact next _ _ _ hCw hL hK
            case enter f args =>
              obtain ⟨rfl, _, hc⟩ := this
              refine ⟨FR_dep, calls_FR (hc.mono fun e w'' ⟨he, hkp⟩ => by subst he; exact next _ _ _ (hC _ _ hCw hkp) (hL.keep hkp) hK)⟩
        | new =>
          rw [hkd] at hS
          obtain ⟨v, w', hr, hkp, hSv⟩ := hS w hcl
          rw [semAt_run (by rw [hr]; trivial), hr]
          exact next _ _ _ (hC w w' hCw hkp) (hL.add _ (hn w hCw) hkp) (hk _ _ hSv)
        | mem φ =>
          rw [hkd] at hS
          obtain ⟨hS1, hS2⟩ := hS
          have := hS2 w hcl
          rw [semAt_run this.not]
          generalize (execOp a.eval o).run P w = res at *
          cases res with
          | halt x w' => simp only [memUpon] at this
          | ok nx w' =>
            cases nx <;> simp only [memUpon] at this <;> simp only [Oper.uponIn]
            case value u => exact next _ _ _ (hC w w' hCw this.1) (hL.add _ (hn w hCw) this.1) (hk _ _ ((hS1 _ _).2 this.2))
            case enter f args =>
              obtain ⟨rfl, hc⟩ := this
              refine ⟨FR_dep, calls_FR (hc.mono fun e w'' ⟨v, he, hkp, hφ⟩ => by subst he; exact next _ _ _ (hC _ _ hCw hkp) (hL.add _ (hn _ hCw) hkp) (hk _ _ ((hS1 _ _).2 hφ)))⟩
      · rename_i hw
        simp only [hw] at hg
        exact ⟨fun _ _ => trivial, next _ _ _ hCw hL hg⟩
end
end Go.Eng

/-
  The engine, part 2: what is known of the slots and of memory, and the walk over code.
-/
namespace Go.Eng
open Go
abbrev Env := List (Nat × Value)
def Env.get : List (Nat × Value) → Nat → Option Value
  | [], _ => none
  | (d, v) :: r, t => bif Nat.beq d t then some v else Env.get r t
def Env.ev (env : List (Nat × Value)) : Operand → Option Value
  | .tmp t => Env.get env t
  | .const v => some v
  | .global g => some (.pointer (some ⟨g, 0, none⟩))
  | .func f => some (.func (.func f) #[] #[])
structure EnvOk (n : Nat) (df : List Deferred) (env : Env) (a : Act) : Prop where
  size : a.tmps.size = n
  defers : a.defers = df
  get : ∀ t v, Env.get env t = some v → a.tmps.getD t undef = v
theorem EnvOk.eval {n : Nat} {df : List Deferred} {env : Env} {a : Act} (h : EnvOk n df env a) {x : Operand} {v : Value} (hx : Env.ev env x = some v) : a.eval x = v := by
  cases x <;> simp only [Env.ev, Option.some.injEq] at hx <;> simp only [Act.eval]
  case tmp t => exact h.get t v hx
  all_goals exact hx
theorem EnvOk.put {n : Nat} {df : List Deferred} {env : Env} {a : Act} (h : EnvOk n df env a) {d : Nat} (hd : d < n) (v : Value) : EnvOk n df ((d, v) :: env) (a.put (some d) v) := by
  refine ⟨by simp [Act.put, h.size], by simp [Act.put, h.defers], fun t u hu => ?_⟩
  simp only [Env.get] at hu
  simp only [Act.put]
  cases hb : Nat.beq d t with
  | true =>
    have : d = t := Nat.eq_of_beq_eq_true hb
    subst this
    simp only [hb, cond_true, Option.some.injEq] at hu
    subst hu
    have : d < a.tmps.size := by rw [h.size]; exact hd
    simp [this]
  | false =>
    have hne : d ≠ t := fun e => by rw [e] at hb; simp at hb
    simp only [hb, cond_false] at hu
    have := h.get t u hu
    simpa [Array.getElem?_setIfInBounds_ne hne] using this
theorem EnvOk.forget {n : Nat} {df : List Deferred} {env env' : Env} {a : Act} (h : EnvOk n df env a) (hs : ∀ t v, Env.get env' t = some v → Env.get env t = some v) : EnvOk n df env' a :=
  ⟨h.size, h.defers, fun t v ht => h.get t v (hs t v ht)⟩
def Env.sub : List (Nat × Value) → List (Nat × Value) → Prop
  | [], _ => True
  | (t, v) :: r, env => Env.get env t = some v ∧ Env.sub r env
theorem Env.sub_get {env' env : Env} (h : Env.sub env' env) : ∀ t v, Env.get env' t = some v → Env.get env t = some v := by
  induction env' with
  | nil => intro t v ht; cases ht
  | cons x r ih =>
    obtain ⟨d, u⟩ := x
    intro t v ht
    simp only [Env.get] at ht
    cases hb : Nat.beq d t with
    | true =>
      have : d = t := Nat.eq_of_beq_eq_true hb
      subst this
      simp only [hb, cond_true, Option.some.injEq] at ht
      subst ht
      exact h.1
    | false =>
      simp only [hb, cond_false] at ht
      exact ih h.2 t v ht
theorem getD_bool {tmps : Array Value} {t : Nat} {b : Bool} (h : tmps.getD t undef = .bool b) : tmps[t]? = some (.bool b) := by
  rcases Nat.lt_or_ge t tmps.size with h' | h'
  · simp [h'] at h ⊢; exact h
  · simp [Array.getElem?_eq_none h', undef] at h
/-! ### Memory -/
abbrev Know := Addr → Option Value
abbrev Own := List (Nat × Obj)
structure Cx where
  P : Program
  n : Nat
  w0 : World
  S : List Nat
  ro : Option Nat
  df : List Deferred
structure Sat (c : Cx) (F : Know) (own : Own) (w : World) : Prop where
  keep : Keep c.S c.w0 w
  know : ∀ a v, F a = some v → w.cell? a = some v
  away : ∀ a v, F a = some v → a.block ∉ own.map (·.1)
  nodup : (own.map (·.1)).Nodup
  ids : ∀ x ∈ own, c.w0.heap.size ≤ x.1 ∨ x.1 ∈ c.S
  own : ∀ x ∈ own, w.heap[x.1]? = some x.2
theorem Sat.keep' {c : Cx} {F : Know} {own : Own} {w w' : World} (h : Sat c F own w) (k : Keep [] w w') : Sat c F own w' :=
  ⟨h.keep.trans (k.mono fun _ h => by cases h), fun a v ha => k.cell (h.know a v ha) (by simp), h.away, h.nodup, h.ids, fun x hx => k.block (h.own x hx) (by simp)⟩
theorem Sat.join {c : Cx} {F : Know} {own : Own} {n0 : Nat} {w1 : World} {L : News} (h1 : Sat c F own w1) (hown : ∀ x ∈ own, x.1 < n0) (hF : ∀ a v, F a = some v → a.block < n0) (hc : c.w0.heap.size ≤ n0) (hn : (L.map (·.1)).Nodup) (hL : ∀ x ∈ L, n0 ≤ x.1 ∧ w1.heap[x.1]? = some x.2) : Sat c F (L ++ own) w1 := by
  refine ⟨h1.keep, h1.know, fun a v ha hm => ?_, ?_, fun x hx => ?_, fun x hx => ?_⟩
  · rw [List.map_append, List.mem_append] at hm
    rcases hm with hm | hm
    · obtain ⟨x, hx, he⟩ := List.mem_map.1 hm
      have := hF a v ha
      have := (hL x hx).1
      omega
    · exact h1.away a v ha hm
  · rw [List.map_append, List.nodup_append]
    refine ⟨hn, h1.nodup, fun i hi j hj => ?_⟩
    obtain ⟨x, hx, rfl⟩ := List.mem_map.1 hi
    obtain ⟨y, hy, rfl⟩ := List.mem_map.1 hj
    have := (hL x hx).1
    have := hown y hy
    omega
  · rcases List.mem_append.1 hx with hx | hx
    · have := (hL x hx).1
      exact .inl (by omega)
    · exact h1.ids x hx
  · rcases List.mem_append.1 hx with hx | hx
    · exact (hL x hx).2
    · exact h1.own x hx
theorem Sat.ownlt {c : Cx} {F : Know} {own : Own} {w : World} (h : Sat c F own w) : ∀ x ∈ own, x.1 < w.heap.size := fun x hx => heap_lt (h.own x hx)
theorem Sat.knowlt {c : Cx} {F : Know} {own : Own} {w : World} (h : Sat c F own w) : ∀ a v, F a = some v → a.block < w.heap.size := fun a v ha => cell_lt (h.know a v ha)
structure Hd (c : Cx) (env : Env) (F : Know) (own : Own) (a : Act) (w : World) : Prop where
  env : EnvOk c.n c.df env a
  sat : Sat c F own w
def TK (c : Cx) (env : Env) (F : Know) (own : Own) (K : Act → World → Prop) : Prop := ∀ a w, Hd c env F own a w → K a w
abbrev T (c : Cx) (env : Env) (F : Know) (own : Own) (code : Code) (Q : Exit → Act → World → Prop) : Prop := TK c env F own (code.wpIn (FR c.ro) 0 c.P Q)
section
variable {c : Cx} {env : Env} {F : Know} {own : Own} {Q : Exit → Act → World → Prop}
theorem t_seq {x y : Code} (h : T c env F own x (Exit.then (y.wpIn (FR c.ro) 0 c.P Q) Q)) : T c env F own (.seq x y) Q := fun a w hd => wpIn_seq (h a w hd)
theorem t_skip (h : TK c env F own (Q .normal)) : T c env F own .skip Q := fun a w hd => wpIn_skip (h a w hd)
theorem t_exit {id : Nat} (h : TK c env F own (Q (.exit id))) : T c env F own (.exit id) Q := fun a w hd => wpIn_exit (h a w hd)
theorem t_ret (h : TK c env F own (Q .ret)) : T c env F own .ret Q := fun a w hd => wpIn_ret (h a w hd)
theorem t_block {id : Nat} {x : Code} (h : T c env F own x (Exit.inBlock id Q)) : T c env F own (.block id x) Q := fun a w hd => wpIn_block (h a w hd)
theorem t_cond {o : Operand} {x y : Code} {b : Bool} (ho : Env.ev env o = some (.bool b)) (ht : b = true → T c env F own x Q) (hf : b = false → T c env F own y Q) : T c env F own (.cond o x y) Q := by
  intro a w hd
  refine wpIn_cond (hd.env.eval ho) ?_
  cases b
  · exact hf rfl a w hd
  · exact ht rfl a w hd
theorem t_condT {o : Operand} {x y : Code} (ho : Env.ev env o = some (.bool true)) (ht : T c env F own x Q) : T c env F own (.cond o x y) Q :=
  t_cond ho (fun _ => ht) (fun h => by cases h)
theorem t_condF {o : Operand} {x y : Code} (ho : Env.ev env o = some (.bool false)) (hf : T c env F own y Q) : T c env F own (.cond o x y) Q :=
  t_cond ho (fun h => by cases h) (fun _ => hf)
theorem t_loop {x : Code} {σ : Type} (E : σ → Env) (G : σ → Know) (O : σ → Own) (μ : σ → Nat) (I : σ → Prop) (s0 : σ) (h0 : I s0) (hstart : ∀ a w, Hd c env F own a w → Hd c (E s0) (G s0) (O s0) a w)
    (round : ∀ s, I s → T c (E s) (G s) (O s) x (Exit.then (fun a w => ∃ s', I s' ∧ μ s' < μ s ∧ Hd c (E s') (G s') (O s') a w) Q)) : T c env F own (.loop x) Q := by
  intro a w hd b k cs hro hb hr
  have key : ∀ n (s : σ) a w, μ s = n → I s → Hd c (E s) (G s) (O s) a w →
      ∃ e a' w', Q e a' w' ∧ ArrivesIn (Machine.fenced c.P (FR c.ro)) c.P (lone (b.atR a (.code x :: .inLoop x :: k)) cs w) b k cs e a' w' := by
    intro n
    induction n using Nat.strongRecOn with
    | _ n ih =>
      intro s a w hn hI hd
      obtain ⟨e, a₁, w₁, hq, harr⟩ := round s hI a w hd b (.inLoop x :: k) cs hro hb hr
      cases e with
      | normal =>
        obtain ⟨s', hI₁, hlt, hd₁⟩ := hq
        obtain ⟨e₂, a₂, w₂, hq₂, harr₂⟩ := ih (μ s') (hn ▸ hlt) s' a₁ w₁ rfl hI₁ hd₁
        exact ⟨e₂, a₂, w₂, hq₂, .of_steps (StepsIn.trans harr (.one (fenced_calm hb hr rfl) stepR_inLoop)) harr₂⟩
      | exit id => exact ⟨_, a₁, w₁, hq, .pass (x := .inLoop x) rfl (fun _ _ => .inl (by simp)) harr⟩
      | goto l => exact ⟨_, a₁, w₁, hq, .pass (x := .inLoop x) rfl (fun _ _ => .inl (by simp)) harr⟩
      | ret => exact ⟨_, a₁, w₁, hq, .pass (x := .inLoop x) rfl (fun _ _ => .inl (by simp)) harr⟩
      | panic ch => exact ⟨_, a₁, w₁, hq, .pass (x := .inLoop x) rfl (fun _ _ => .inl (by simp)) harr⟩
      | outgrown => exact ⟨_, a₁, w₁, hq, .pass (x := .inLoop x) rfl (fun _ _ => .inl (by simp)) harr⟩
  obtain ⟨e, a', w', hq, harr⟩ := key _ s0 a w rfl h0 (hstart a w hd)
  exact ⟨e, a', w', hq, .of_steps (.one (fenced_calm hb hr rfl) stepR_loop) harr⟩
/-! ### Regions -/
def RestOf (ro : Option Nat) (draw : Bool) (P : Program) (ops : Array Oper) (Q : Exit → Act → World → Prop) (k : Nat) (a : Act) (w : World) : Prop :=
  match draw with
  | true => wpAnyIn (FR ro) 0 P .any ops Q (ops.size - k) (lk ops.size k) a w
  | false => wpOpsIn (FR ro) 0 P ops Q (List.range' k (ops.size - k)) a w
abbrev R (c : Cx) (draw : Bool) (ops : Array Oper) (Q : Exit → Act → World → Prop) (k : Nat) (env : Env) (F : Know) (own : Own) : Prop := TK c env F own (RestOf c.ro draw c.P ops Q k)
theorem r_start {id : Nat} {ops : Array Oper} (h : R c false ops Q 0 env F own) : T c env F own (.region id ops false) Q :=
  fun a w hd => wpIn_region (by rw [List.range_eq_range']; exact h a w hd)
theorem r_startD {id : Nat} {ops : Array Oper} (hm : c.P.follows .mixedOrders = true) (h : R c true ops Q 0 env F own) : T c env F own (.region id ops true) Q :=
  fun a w hd => wpIn_region_any hm (by
    rw [lk_zero]
    exact h a _ ⟨hd.env, hd.sat.keep' ⟨rfl, rfl, rfl, Nat.le_refl _, fun _ _ _ => rfl⟩⟩)
theorem r_end {draw : Bool} {ops : Array Oper} {k : Nat} (hk : k = ops.size) (h : TK c env F own (Q .normal)) : R c draw ops Q k env F own := by
  subst hk
  intro a w hd
  cases draw with
  | false => simp only [RestOf, Nat.sub_self, List.range'_zero, wpOpsIn]; exact h a w hd
  | true =>
    simp only [RestOf, Nat.sub_self, wpAnyIn]
    refine ⟨?_, h a w hd⟩
    unfold Region.ready
    rw [List.filter_eq_nil_iff]
    intro i hi
    rw [List.mem_range] at hi
    rw [lk_get true hi]
    simp [hi]
def aloneB (ops : Array Oper) (k : Nat) : Bool := Region.ready .any ops (lk ops.size k) == [k]
theorem r_one {draw : Bool} {ops : Array Oper} {k : Nat} (hk : k < ops.size) (hB : draw = true → aloneB ops k = true)
    (h : TK c env F own (wpOpIn (FR c.ro) 0 c.P ops Q k (RestOf c.ro draw c.P ops Q (k + 1)))) : R c draw ops Q k env F own := by
  intro a w hd
  have e1 : ops.size - k = (ops.size - (k + 1)) + 1 := by omega
  cases draw with
  | false =>
    simp only [RestOf]
    rw [e1, List.range'_succ, wpOpsIn_cons]
    exact h a w hd
  | true =>
    have hr : Region.ready .any ops (lk ops.size k) = [k] := by have := hB rfl; simpa [aloneB] using this
    simp only [RestOf]
    rw [e1]
    refine ⟨fun h0 => (by rw [hr] at h0; cases h0), fun i hi => ?_⟩
    rw [hr, List.mem_singleton] at hi
    subst hi
    rw [lk_step]
    exact h a w hd
def Det (c : Cx) (F : Know) (own : Own) (env : Env) (o : Oper) (v : Value) : Prop :=
  ∀ a, EnvOk c.n c.df env a → ∀ w, Sat c F own w → detUpon c.P w v ((execOp a.eval o).run c.P w)
def New (c : Cx) (F : Know) (own : Own) (env : Env) (o : Oper) (V : Nat → Value → Obj → Prop) : Prop :=
  ∀ a, EnvOk c.n c.df env a → ∀ w, Sat c F own w → ∃ v w' ob, (execOp a.eval o).run c.P w = .ok (.value v) w' ∧ Grew w w' (some ob) ∧ V w.heap.size v ob
def putEnv (env : Env) (d : Option Tmp) (v : Value) : Env := match d with | some d => (d, v) :: env | none => env
theorem EnvOk.put' {n : Nat} {df : List Deferred} {env : Env} {a : Act} (h : EnvOk n df env a) {d : Option Tmp} (hd : d.all (fun d => Nat.blt d n) = true) (v : Value) : EnvOk n df (putEnv env d v) (a.put d v) := by
  cases d with
  | none => exact h
  | some d => exact h.put (by simpa [Nat.blt_eq] using hd) v
def wantedB (ops : Array Oper) (env : Env) (o : Oper) : Prop :=
  match o.guard with
  | none => True
  | some (j, b) => ∃ t, (ops[j]?).bind (·.dst) = some t ∧ Env.get env t = some (.bool b)
theorem wanted_of {n : Nat} {df : List Deferred} {ops : Array Oper} {env : Env} {o : Oper} {a : Act} (hd : EnvOk n df env a) (h : wantedB ops env o) : Region.wanted o (yielded ops a.tmps) = true := by
  unfold wantedB at h
  unfold Region.wanted
  split at h
  · rename_i hg; rw [hg]
  · rename_i j b hg
    obtain ⟨t, ht, hv⟩ := h
    rw [hg]
    simp [yielded, ht, getD_bool (hd.get t _ hv)]
def unwantedB (ops : Array Oper) (env : Env) (o : Oper) : Prop :=
  match o.guard with
  | none => False
  | some (j, b) => ∃ t, (ops[j]?).bind (·.dst) = some t ∧ (Env.get env t = some (.bool (!b)) ∨ Env.get env t = some undef)
theorem unwanted_of {n : Nat} {df : List Deferred} {ops : Array Oper} {env : Env} {o : Oper} {a : Act} (hd : EnvOk n df env a) (h : unwantedB ops env o) : Region.wanted o (yielded ops a.tmps) = false := by
  unfold unwantedB at h
  unfold Region.wanted
  split at h
  · exact h.elim
  · rename_i j b hg
    obtain ⟨t, ht, hv⟩ := h
    rw [hg]
    rcases hv with hv | hv
    · simp only [yielded, ht, Option.bind_some, getD_bool (hd.get t _ hv)]
      cases b <;> rfl
    · have := hd.get t _ hv
      simp only [yielded, ht, Option.bind_some]
      rcases Nat.lt_or_ge t a.tmps.size with h' | h'
      · simp [h'] at this ⊢; simp [this, undef]
      · simp [Array.getElem?_eq_none h']
theorem upon_det {c : Cx} {o : Oper} {a : Act} {w : World} {v : Value} {K : Act → World → Prop} {Q : Exit → Act → World → Prop} (hD : detUpon c.P w v ((execOp a.eval o).run c.P w))
    (h : ∀ w', Keep [] w w' → K (a.put o.dst v) w') : o.wpIn (FR c.ro) 0 c.P a w K Q := by
  refine ⟨fun _ _ => trivial, ?_⟩
  rw [semAt_run hD.not]
  generalize (execOp a.eval o).run c.P w = res at *
  cases res with
  | halt x w' => simp only [detUpon] at hD
  | ok nx w' =>
    cases nx <;> simp only [detUpon] at hD <;> simp only [Oper.uponIn]
    case value u => obtain ⟨rfl, rfl⟩ := hD; exact h _ (Keep.refl _ _)
    case skip => obtain ⟨rfl, rfl⟩ := hD; exact h _ (Keep.refl _ _)
    case enter f args =>
      obtain ⟨rfl, _, hc⟩ := hD
      exact ⟨FR_dep, calls_FR (hc.mono fun e w'' ⟨he, hkp⟩ => by subst he; exact h _ hkp)⟩
theorem r_det {draw : Bool} {ops : Array Oper} {k : Nat} {o : Oper} {v : Value} (ho : ops[k]? = some o) (hB : draw = true → aloneB ops k = true) (hd : o.dst.all (fun d => Nat.blt d c.n) = true)
    (hw : wantedB ops env o) (hD : Det c F own env o v) (h : R c draw ops Q (k + 1) (putEnv env o.dst v) F own) : R c draw ops Q k env F own := by
  refine r_one (Array.getElem?_eq_some_iff.1 ho).1 hB fun a w hh => ?_
  unfold wpOpIn
  simp only [ho, wanted_of hh.env hw, if_true]
  exact (upon_det (hD a hh.env w hh.sat) fun w' hk => h _ _ ⟨hh.env.put' hd v, hh.sat.keep' hk⟩)
theorem r_no {draw : Bool} {ops : Array Oper} {k : Nat} {o : Oper} (ho : ops[k]? = some o) (hB : draw = true → aloneB ops k = true) (hd : o.dst.all (fun d => Nat.blt d c.n) = true)
    (hw : unwantedB ops env o) (h : R c draw ops Q (k + 1) (putEnv env o.dst undef) F own) : R c draw ops Q k env F own := by
  refine r_one (Array.getElem?_eq_some_iff.1 ho).1 hB fun a w hh => ?_
  unfold wpOpIn
  simp only [ho, unwanted_of hh.env hw, Bool.false_eq_true, if_false]
  refine ⟨fun _ _ => trivial, ?_⟩
  exact h _ _ ⟨hh.env.put' hd undef, hh.sat⟩
theorem r_new {draw : Bool} {ops : Array Oper} {k : Nat} {o : Oper} {V : Nat → Value → Obj → Prop} (ho : ops[k]? = some o) (hB : draw = true → aloneB ops k = true) (hd : o.dst.all (fun d => Nat.blt d c.n) = true)
    (hw : wantedB ops env o) (hN : New c F own env o V) (h : ∀ p v ob, V p v ob → R c draw ops Q (k + 1) (putEnv env o.dst v) F ((p, ob) :: own)) : R c draw ops Q k env F own := by
  refine r_one (Array.getElem?_eq_some_iff.1 ho).1 hB fun a w hh => ?_
  unfold wpOpIn
  simp only [ho, wanted_of hh.env hw, if_true]
  obtain ⟨v, w', ob, hr, hg, hV⟩ := hN a hh.env w hh.sat
  refine ⟨fun _ _ => trivial, ?_⟩
  rw [semAt_run (by rw [hr]; trivial), hr]
  have hs := (hh.sat.keep' hg.keep).join (L := [(w.heap.size, ob)]) hh.sat.ownlt hh.sat.knowlt hh.sat.keep.size (by simp) (fun x hx => by
    rw [List.mem_singleton] at hx; subst hx; exact ⟨Nat.le_refl _, hg.new⟩)
  exact h _ _ _ hV _ _ ⟨hh.env.put' hd v, hs⟩
/-! #### A stretch of a region that draws its order -/
def objCell (a : Addr) : Obj → Option Value
  | .cells cs _ _ => if a.spot.isSome then none else cs[a.off]?
  | _ => none
theorem cell_objCell {w : World} {a : Addr} {ob : Obj} (h : w.heap[a.block]? = some ob) : w.cell? a = objCell a ob := by
  unfold World.cell? objCell
  rw [h]
  cases ob <;> rfl
noncomputable def seeK (own : Own) (w : World) : Know := fun a => if a.block ∈ own.map (·.1) then none else w.cell? a
theorem Sat.see {w : World} (h : Sat c F own w) : Sat c (seeK own w) own w ∧ ∀ a u, F a = some u → seeK own w a = some u := by
  refine ⟨⟨h.keep, fun a v ha => ?_, fun a v ha => ?_, h.nodup, h.ids, h.own⟩, fun a u ha => ?_⟩
  · unfold seeK at ha; split at ha
    · cases ha
    · exact ha
  · unfold seeK at ha; split at ha
    · cases ha
    · rename_i hn; exact hn
  · unfold seeK
    rw [if_neg (h.away a u ha)]
    exact h.know a u ha
abbrev Incl (F F' : Know) : Prop := ∀ a u, F a = some u → F' a = some u
abbrev Fresh (c : Cx) (F F' : Know) : Prop := ∀ a u, F' a = some u → F a = some u ∨ c.w0.heap.size ≤ a.block
noncomputable def newK (F : Know) (own : Own) (n0 : Nat) (w : World) : Know := fun a => if a.block ∈ own.map (·.1) then none else if n0 ≤ a.block then w.cell? a else F a
theorem Sat.news {w : World} (h : Sat c F own w) (n0 : Nat) (hn : c.w0.heap.size ≤ n0) : Sat c (newK F own n0 w) own w ∧ Incl F (newK F own n0 w) ∧ Fresh c F (newK F own n0 w) ∧ ∀ a u, n0 ≤ a.block → a.block ∉ own.map (·.1) → w.cell? a = some u → newK F own n0 w a = some u := by
  refine ⟨⟨h.keep, fun a v ha => ?_, fun a v ha => ?_, h.nodup, h.ids, h.own⟩, fun a u ha => ?_, fun a u ha => ?_, fun a u h1 h2 h3 => ?_⟩
  · unfold newK at ha; split at ha
    · cases ha
    · split at ha
      · exact ha
      · exact h.know a v ha
  · unfold newK at ha; split at ha
    · cases ha
    · rename_i hn; exact hn
  · unfold newK
    rw [if_neg (h.away a u ha)]
    split
    · exact h.know a u ha
    · exact ha
  · unfold newK at ha; split at ha
    · cases ha
    · split at ha
      · rename_i h1; exact .inr (Nat.le_trans hn h1)
      · exact .inl ha
  · unfold newK
    rw [if_neg h2, if_pos h1, h3]
inductive Item where
  | own (t : Option Tmp) (p : Nat) (ob : Obj)
  | fact (t : Option Tmp) (φ : Know → Prop)
def Item.tag : Item → Option Tmp
  | .own t _ _ => t
  | .fact t _ => t
def Item.holds (F' : Know) : Item → Prop
  | .own _ p ob => ∀ a u, a.block = p → objCell a ob = some u → F' a = some u
  | .fact _ φ => φ F'
def KnowsL (nb : News) (F' : Know) : Prop := ∀ x ∈ nb, ∀ a u, a.block = x.1 → objCell a x.2 = some u → F' a = some u
inductive Real (F : Know) : List Item → TNews → Prop
  | nil : Real F [] []
  | own {t : Option Tmp} {p : Nat} {ob : Obj} {N : List Item} {L : TNews} : Real F N L → Real F (.own t p ob :: N) ((t, (p, ob)) :: L)
  | fact {t : Option Tmp} {φ : Know → Prop} {nb : News} {N : List Item} {L : TNews} : Real F N L → (∀ F', Incl F F' → KnowsL nb F' → φ F') → Real F (.fact t φ :: N) (tagL t nb ++ L)
def ownsI : List Item → Own
  | [] => []
  | .own _ p ob :: N => (p, ob) :: ownsI N
  | .fact _ _ :: N => ownsI N
def factsI (F' : Know) : List Item → Prop
  | [] => True
  | .own _ _ _ :: N => factsI F' N
  | .fact _ φ :: N => φ F' ∧ factsI F' N
theorem Real.owns {N : List Item} {L : TNews} (h : Real F N L) : (ownsI N).Sublist (L.map (·.2)) := by
  induction h with
  | nil => exact .slnil
  | own _ ih => exact ih.cons_cons _
  | fact _ _ ih => rw [List.map_append]; exact ih.trans (List.sublist_append_right _ _)
theorem Real.holds {N : List Item} {L : TNews} (h : Real F N L) {F' : Know} (hF : Incl F F') {p : Option Tmp → Bool} (hL : ∀ x ∈ L, p x.1 = true → ∀ a u, a.block = x.2.1 → objCell a x.2.2 = some u → F' a = some u) :
    ∀ it ∈ N, p it.tag = true → it.holds F' := by
  induction h with
  | nil => intro it hi; cases hi
  | @own t q ob N L _ ih =>
    intro it hi hp
    rcases List.mem_cons.1 hi with rfl | hi
    · exact hL _ List.mem_cons_self hp
    · exact ih (fun x hx => hL x (List.mem_cons_of_mem _ hx)) it hi hp
  | @fact t φ nb N L _ hφ ih =>
    intro it hi hp
    rcases List.mem_cons.1 hi with rfl | hi
    · refine hφ F' hF fun x hx a u ha hu => hL (t, x) (List.mem_append_left _ (List.mem_map_of_mem hx)) hp a u ha hu
    · exact ih (fun x hx => hL x (List.mem_append_right _ hx)) it hi hp
def kindOf (ns : List Nat) (ms : List (Nat × (Value → News → Prop))) (i : Nat) : Kind :=
  if ns.contains i then .new else match ms.lookup i with | some φ => .mem φ | none => .det
def Told (F : Know) (R : Value → Know → Prop) (v : Value) (nb : News) : Prop := (∃ F', R v F') ∧ ∀ F', Incl F F' → KnowsL nb F' → R v F'
abbrev CW (c : Cx) (F : Know) (own : Own) (n0 : Nat) (w : World) : Prop := Sat c F own w ∧ n0 ≤ w.heap.size
def Zfin (c : Cx) (F : Know) (own : Own) (n0 : Nat) (Z : Env → List Item → Prop) (a' : Act) (L' : TNews) : Prop :=
  Prem (CW c F own n0) n0 L' → ∃ env' N' L'', SubP L'' L' ∧ Real F N' L'' ∧ EnvOk c.n c.df env' a' ∧ Z env' N'
theorem Zfin_inv {n0 : Nat} {Z : Env → List Item → Prop} : Inv (CW c F own n0) n0 (Zfin c F own n0 Z) :=
  ⟨fun a L L' hs h hp => by
    obtain ⟨env', N', L'', h1, h2⟩ := h (hp.sub hs)
    exact ⟨env', N', L'', h1.trans hs, h2⟩, fun a L h hp => h hp hp⟩
def SG (c : Cx) (ops : Array Oper) (F : Know) (own : Own) (kd : Nat → Kind) (Z : Env → List Item → Prop) (l : List Nat) (env : Env) (N : List Item) : Prop :=
  (∀ i ∈ l, ∃ o, ops[i]? = some o) → ∀ n0 a L, (∀ x ∈ own, x.1 < n0) → EnvOk c.n c.df env a → Real F N L → wpG c.P ops (CW c F own n0) n0 kd (Zfin c F own n0 Z) l a L
theorem sg_nil {ops : Array Oper} {kd : Nat → Kind} {Z : Env → List Item → Prop} {N : List Item} (h : Z env N) : SG c ops F own kd Z [] env N :=
  fun _ _ _ L _ he hr _ => ⟨env, N, L, .refl _, hr, he, h⟩
abbrev Needs (ops : Array Oper) (o : Oper) (N ns : List Item) : Prop := ∀ it ∈ ns, it ∈ N ∧ it.tag.any (fun t => (o.looksAt ops).contains t) = true
theorem needs_hold {ops : Array Oper} {o : Oper} {N ns : List Item} {L : TNews} {n0 : Nat} {w : World} (hr : Real F N L) (hn : Needs ops o N ns) (hlt : ∀ x ∈ own, x.1 < n0) (hw : CL ops (CW c F own n0) n0 o L w) : ∀ it ∈ ns, it.holds (seeK own w) := by
  intro it hi
  obtain ⟨h1, h2⟩ := hn it hi
  refine hr.holds hw.1.1.see.2 (p := fun t => t.any fun t => (o.looksAt ops).contains t) (fun x hx hp a u ha hu => ?_) it h1 h2
  have hm : x ∈ restr ops o L := List.mem_filter.2 ⟨hx, hp⟩
  obtain ⟨g1, g2⟩ := hw.2.at_ x hm
  unfold seeK
  rw [if_neg, cell_objCell (by rw [ha]; exact g2), hu]
  intro hm
  obtain ⟨y, hy, he⟩ := List.mem_map.1 hm
  have := hlt y hy
  omega
theorem need0 {ops : Array Oper} {o : Oper} {N : List Item} : Needs ops o N [] := fun _ h => by cases h
theorem needC {ops : Array Oper} {o : Oper} {N ns : List Item} {a : Item} (h : a ∈ N) (ht : a.tag.any (fun t => (o.looksAt ops).contains t) = true) (hn : Needs ops o N ns) : Needs ops o N (a :: ns) := fun it hi => by
  rcases List.mem_cons.1 hi with rfl | hi
  · exact ⟨h, ht⟩
  · exact hn it hi
theorem holdsK {F' : Know} {t : Option Tmp} {p : Nat} {cs : List Value} {T : TypeId} {fr : Nat × Nat} (h : (Item.own t p (.cells cs.toArray T fr)).holds F') : ∀ k u, cs[k]? = some u → F' ⟨p, k, none⟩ = some u :=
  fun k u hu => h ⟨p, k, none⟩ u rfl (by simpa [objCell] using hu)
theorem sg_detN {ops : Array Oper} {kd : Nat → Kind} {Z : Env → List Item → Prop} {N : List Item} (ns : List Item) {i : Nat} {l : List Nat} {o : Oper} {v : Value} (ho : ops[i]? = some o) (hd : o.dst.all (fun d => Nat.blt d c.n) = true)
    (hw : wantedB ops env o) (hk : kd i = .det) (hn : Needs ops o N ns) (hD : ∀ F', Incl F F' → (∀ it ∈ ns, it.holds F') → Det c F' own env o v) (h : SG c ops F own kd Z l (putEnv env o.dst v) N) : SG c ops F own kd Z (i :: l) env N := by
  intro hin n0 a L hlt he hr
  have hin' : ∀ j ∈ l, ∃ o, ops[j]? = some o := fun j hj => hin j (List.mem_cons_of_mem _ hj)
  refine ⟨o, ho, fun hp => ?_⟩
  simp only [wanted_of he hw, if_true, hk]
  refine ⟨fun u _ => u = v, ⟨v, fun w hC => ?_, fun u nb => Iff.rfl⟩, ?_⟩
  · exact hD _ hC.1.1.see.2 (needs_hold hr hn hlt hC) a he w hC.1.1.see.1
  · rintro u nb rfl
    exact (wpG_inv Zfin_inv l hin').sub _ _ _ (.ofSub (List.sublist_append_right _ _)) (h hin' n0 _ L hlt (he.put' hd u) hr)
theorem Det.incl {F' : Know} {o : Oper} {v : Value} (h : Det c F own env o v) (hF : Incl F F') : Det c F' own env o v := fun a he w hs =>
  h a he w ⟨hs.keep, fun a v ha => hs.know a v (hF a v ha), fun a v ha => hs.away a v (hF a v ha), hs.nodup, hs.ids, hs.own⟩
theorem New.incl {F' : Know} {o : Oper} {V : Nat → Value → Obj → Prop} (h : New c F own env o V) (hF : Incl F F') : New c F' own env o V := fun a he w hs =>
  h a he w ⟨hs.keep, fun a v ha => hs.know a v (hF a v ha), fun a v ha => hs.away a v (hF a v ha), hs.nodup, hs.ids, hs.own⟩
theorem sg_det {ops : Array Oper} {kd : Nat → Kind} {Z : Env → List Item → Prop} {N : List Item} {i : Nat} {l : List Nat} {o : Oper} {v : Value} (ho : ops[i]? = some o) (hd : o.dst.all (fun d => Nat.blt d c.n) = true)
    (hw : wantedB ops env o) (hk : kd i = .det) (hD : Det c F own env o v) (h : SG c ops F own kd Z l (putEnv env o.dst v) N) : SG c ops F own kd Z (i :: l) env N :=
  sg_detN [] ho hd hw hk (fun _ h => by cases h) (fun _ hF _ => hD.incl hF) h
theorem sg_no {ops : Array Oper} {kd : Nat → Kind} {Z : Env → List Item → Prop} {N : List Item} {i : Nat} {l : List Nat} {o : Oper} (ho : ops[i]? = some o) (hd : o.dst.all (fun d => Nat.blt d c.n) = true)
    (hw : unwantedB ops env o) (h : SG c ops F own kd Z l (putEnv env o.dst undef) N) : SG c ops F own kd Z (i :: l) env N := by
  intro hin n0 a L hlt he hr
  refine ⟨o, ho, fun hp => ?_⟩
  simp only [unwanted_of he hw, Bool.false_eq_true, if_false]
  exact h (fun j hj => hin j (List.mem_cons_of_mem _ hj)) n0 _ L hlt (he.put' hd undef) hr
theorem sg_newN {ops : Array Oper} {kd : Nat → Kind} {Z : Env → List Item → Prop} {N : List Item} (ns : List Item) {i : Nat} {l : List Nat} {o : Oper} {V : Nat → Value → Obj → Prop} (ho : ops[i]? = some o) (hd : o.dst.all (fun d => Nat.blt d c.n) = true)
    (hw : wantedB ops env o) (hk : kd i = .new) (hn : Needs ops o N ns) (hN : ∀ F', Incl F F' → (∀ it ∈ ns, it.holds F') → New c F' own env o V) (h : ∀ p v ob, V p v ob → SG c ops F own kd Z l (putEnv env o.dst v) (.own o.dst p ob :: N)) : SG c ops F own kd Z (i :: l) env N := by
  intro hin n0 a L hlt he hr
  have hin' : ∀ j ∈ l, ∃ o, ops[j]? = some o := fun j hj => hin j (List.mem_cons_of_mem _ hj)
  refine ⟨o, ho, fun hp => ?_⟩
  simp only [wanted_of he hw, if_true, hk]
  refine ⟨fun v nb => ∃ p ob, nb = [(p, ob)] ∧ V p v ob, fun w hC => ?_, ?_⟩
  · obtain ⟨v, w', ob, hr1, hg, hV⟩ := hN _ hC.1.1.see.2 (needs_hold hr hn hlt hC) a he w hC.1.1.see.1
    exact ⟨v, w', hr1, hg.keep, _, ob, newsOf_one hg, hV⟩
  · rintro v nb ⟨p, ob, rfl, hV⟩
    exact h p v ob hV hin' n0 _ _ hlt (he.put' hd v) (.own hr)
theorem sg_new {ops : Array Oper} {kd : Nat → Kind} {Z : Env → List Item → Prop} {N : List Item} {i : Nat} {l : List Nat} {o : Oper} {V : Nat → Value → Obj → Prop} (ho : ops[i]? = some o) (hd : o.dst.all (fun d => Nat.blt d c.n) = true)
    (hw : wantedB ops env o) (hk : kd i = .new) (hN : New c F own env o V) (h : ∀ p v ob, V p v ob → SG c ops F own kd Z l (putEnv env o.dst v) (.own o.dst p ob :: N)) : SG c ops F own kd Z (i :: l) env N :=
  sg_newN [] ho hd hw hk (fun _ h => by cases h) (fun _ hF _ => hN.incl hF) h
def Mem (c : Cx) (F0 F : Know) (own : Own) (env : Env) (o : Oper) (Rl : Value → Know → Prop) : Prop :=
  ∀ a, EnvOk c.n c.df env a → ∀ w, Sat c F own w → memUpon c.P w (Told F0 Rl) ((execOp a.eval o).run c.P w)
theorem sg_memN {ops : Array Oper} {kd : Nat → Kind} {Z : Env → List Item → Prop} {N : List Item} (ns : List Item) {i : Nat} {l : List Nat} {o : Oper} {Rl : Value → Know → Prop} (ho : ops[i]? = some o) (hd : o.dst.all (fun d => Nat.blt d c.n) = true)
    (hw : wantedB ops env o) (hk : kd i = .mem (Told F Rl)) (hn : Needs ops o N ns) (hM : ∀ F', Incl F F' → (∀ it ∈ ns, it.holds F') → Mem c F F' own env o Rl) (h : ∀ v, (∃ F', Rl v F') → SG c ops F own kd Z l (putEnv env o.dst v) (.fact o.dst (fun F' => Rl v F') :: N)) : SG c ops F own kd Z (i :: l) env N := by
  intro hin n0 a L hlt he hr
  have hin' : ∀ j ∈ l, ∃ o, ops[j]? = some o := fun j hj => hin j (List.mem_cons_of_mem _ hj)
  refine ⟨o, ho, fun hp => ?_⟩
  simp only [wanted_of he hw, if_true, hk]
  refine ⟨Told F Rl, ⟨fun u nb => Iff.rfl, fun w hC => ?_⟩, ?_⟩
  · exact hM _ hC.1.1.see.2 (needs_hold hr hn hlt hC) a he w hC.1.1.see.1
  · intro v nb hv
    exact h v hv.1 hin' n0 _ _ hlt (he.put' hd v) (.fact hr hv.2)
theorem nodup_range_length : ∀ (m k : Nat) (l : List Nat), l.Nodup → (∀ j ∈ l, k ≤ j ∧ j < m) → l.length ≤ m - k := by
  intro m
  induction m with
  | zero => intro k l _ h; cases l with | nil => simp | cons x l => have := (h x List.mem_cons_self).2; omega
  | succ m ih =>
    intro k l hl h
    by_cases hm : m ∈ l
    · have h1 := ih k (l.erase m) (hl.erase m) (fun j hj => by
        have h2 := (List.Nodup.mem_erase_iff hl).1 hj
        have h3 := h j h2.2
        exact ⟨h3.1, by have := h2.1; omega⟩)
      have h2 := List.length_erase_of_mem hm
      have h3 := (h m hm).1
      have h4 : 0 < l.length := List.length_pos_of_mem hm
      omega
    · have h1 := ih k l hl (fun j hj => by
        have h3 := h j hj
        exact ⟨h3.1, by have : j ≠ m := fun e => hm (e ▸ hj); omega⟩)
      omega
theorem few_lk {n m k : Nat} (hm : m ≤ n) : Few m (lk n k) (m - k) := by
  intro l hl h
  refine nodup_range_length m k l hl fun j hj => ?_
  obtain ⟨h1, h2⟩ := h j hj
  rw [lk_get true (by omega)] at h2
  simp only [decide_eq_false_iff_not, Nat.not_lt] at h2
  exact ⟨h2, h1⟩
def segB (ops : Array Oper) (f k m : Nat) (l : List Nat) : Bool :=
  decide (k ≤ m) && decide (m ≤ ops.size) && (l.length == m - k) && Region.noSelect ops && dnB .any ops k && barB .any ops f m && lexG .any ops m l (lk ops.size k)
theorem r_segZ {ops : Array Oper} {k : Nat} (f m : Nat) (kd : Nat → Kind) (l : List Nat) {Z : Env → List Item → Prop} (hB : segB ops f k m l = true)
    (hZ : ∀ env' N', Z env' N' → ∀ n0 a w L'', Sat c F own w → (∀ x ∈ own, x.1 < n0) → (∀ a v, F a = some v → a.block < n0) → c.w0.heap.size ≤ n0 → HoldsL n0 L'' w → Real F N' L'' → EnvOk c.n c.df env' a → RestOf c.ro true c.P ops Q m a w)
    (h : SG c ops F own kd Z l env []) : R c true ops Q k env F own := by
  simp only [segB, Bool.and_eq_true, decide_eq_true_eq, beq_iff_eq] at hB
  obtain ⟨⟨⟨⟨⟨⟨hkm, hm⟩, hlen⟩, hsel⟩, hdn⟩, hbar⟩, hlex⟩ := hB
  intro a w hd
  · have e1 : ops.size - k = (m - k) + (ops.size - m) := by omega
    simp only [RestOf]
    rw [e1]
    have hC : ∀ w1 w2, CW c F own w.heap.size w1 → Keep [] w1 w2 → CW c F own w.heap.size w2 := fun w1 w2 h1 hk => ⟨h1.1.keep' hk, Nat.le_trans h1.2 hk.size⟩
    have hn : ∀ w1, CW c F own w.heap.size w1 → w.heap.size ≤ w1.heap.size := fun w1 h1 => h1.2
    refine wpAny_of_G (kd := kd) (n0 := w.heap.size) (C := CW c F own w.heap.size) hbar hm hC hn
      (Z := Zfin c F own w.heap.size Z) ?_ (m - k) (lk ops.size k) a [] w (lk_size _ _) (dnB_spec hdn) (fun i hi hin => ?_) (few_lk hm) ⟨hd.sat, Nat.le_refl _⟩ (HoldsL.nil _ _) ?_
    · intro a' L' w' hC' hL hz
      obtain ⟨env', N', L'', hs, hr, he, hZ'⟩ := hz ⟨w', hC', hL⟩
      exact hZ env' N' hZ' w.heap.size a' w' L'' hC'.1 hd.sat.ownlt hd.sat.knowlt hd.sat.keep.size (hL.sub hs) hr he
    · rw [lk_get true hin]; simp; omega
    · rw [← hlen]
      exact wpAnyG_lex hC hn Zfin_inv hsel l _ a [] (by rw [hlen]; exact few_lk hm) hlex (h (lexG_in l _ hlex) w.heap.size a [] hd.sat.ownlt hd.env .nil)
theorem join_real {N : List Item} {L : TNews} {n0 : Nat} {w : World} (hs : Sat c F own w) (h1 : ∀ x ∈ own, x.1 < n0) (h2 : ∀ a v, F a = some v → a.block < n0) (h3 : c.w0.heap.size ≤ n0) (hL : HoldsL n0 L w) (hr : Real F N L) : Sat c F (ownsI N ++ own) w := by
  have ho := hr.owns
  refine hs.join h1 h2 h3 ?_ fun x hx => ?_
  · have := hL.nodup
    rw [show L.map (·.2.1) = (L.map (·.2)).map (·.1) by simp] at this
    exact (ho.map _).nodup this
  · obtain ⟨y, hy, rfl⟩ := List.mem_map.1 (ho.subset hx)
    exact hL.at_ y hy
theorem r_seg {ops : Array Oper} {k : Nat} (f m : Nat) (ns : List Nat) (l : List Nat) (hB : segB ops f k m l = true)
    (h : SG c ops F own (kindOf ns []) (fun env' N' => R c true ops Q m env' F (ownsI N' ++ own)) l env []) : R c true ops Q k env F own :=
  r_segZ f m _ l hB (fun _ _ hZ _ a w _ hs h1 h2 h3 hL hr he => hZ a w ⟨he, join_real hs h1 h2 h3 hL hr⟩) h
theorem facts_real {N : List Item} {L : TNews} {n0 : Nat} {w : World} (hr : Real F N L) : HoldsL n0 L w → ∀ (F' : Know), Incl F F' → (∀ a u, n0 ≤ a.block → a.block ∈ L.map (·.2.1) → a.block ∉ (ownsI N).map (·.1) → w.cell? a = some u → F' a = some u) → factsI F' N := by
  induction hr with
  | nil => intro _ _ _ _; trivial
  | @own t p ob N L hr ih =>
    intro hL F' hF hc
    have hL' : HoldsL n0 L w := hL.sub (.ofSub (List.sublist_cons_self _ _))
    refine ih hL' F' hF fun a u h1 h2 h3 h4 => hc a u h1 (List.mem_cons_of_mem _ h2) ?_ h4
    intro hm
    simp only [ownsI, List.map_cons] at hm
    rcases List.mem_cons.1 hm with e | hm
    · have := hL.nodup
      simp only [List.map_cons, List.nodup_cons] at this
      exact this.1 (e ▸ h2)
    · exact h3 hm
  | @fact t φ nb N L hr hφ ih =>
    intro hL F' hF hc
    have hL' : HoldsL n0 L w := hL.sub (.ofSub (List.sublist_append_right _ _))
    refine ⟨hφ F' hF fun x hx a u ha hu => ?_, ih hL' F' hF fun a u h1 h2 h3 h4 => hc a u h1 (by rw [List.map_append]; exact List.mem_append_right _ h2) h3 h4⟩
    have hx' : (t, x) ∈ tagL t nb ++ L := List.mem_append_left _ (List.mem_map_of_mem hx)
    obtain ⟨g1, g2⟩ := hL.at_ _ hx'
    refine hc a u (by rw [ha]; exact g1) (by rw [ha]; exact List.mem_map_of_mem (f := (·.2.1)) hx') ?_ (by rw [cell_objCell (by rw [ha]; exact g2), hu])
    intro hm
    have hs : a.block ∈ L.map (·.2.1) := by
      have := (hr.owns.map (·.1)).subset hm
      simpa using this
    have hn := hL.nodup
    rw [List.map_append, List.nodup_append] at hn
    have h5 : x.1 ∈ (tagL t nb).map (·.2.1) := by
      rw [tagL, List.map_map]; exact List.mem_map_of_mem (f := fun y : Nat × Obj => y.1) hx
    exact hn.2.2 x.1 h5 a.block hs ha.symm
theorem r_segF {ops : Array Oper} {k : Nat} (f m : Nat) (ns : List Nat) (ms : List (Nat × (Value → News → Prop))) (l : List Nat) (hB : segB ops f k m l = true)
    (h : SG c ops F own (kindOf ns ms) (fun env' N' => ∀ F', Incl F F' → Fresh c F F' → factsI F' N' → R c true ops Q m env' F' (ownsI N' ++ own)) l env []) : R c true ops Q k env F own :=
  r_segZ f m _ l hB (fun env' N' hZ n0 a w L'' hs h1 h2 h3 hL hr he => by
    have hj := join_real hs h1 h2 h3 hL hr
    obtain ⟨k1, k2, k3, k4⟩ := hj.news n0 (Nat.le_trans h3 (Nat.le_refl _))
    refine hZ _ k2 k3 (facts_real hr hL _ k2 fun a u g1 g2 g3 g4 => k4 a u g1 ?_ g4) a w ⟨he, k1⟩
    intro hm
    rw [List.map_append] at hm
    rcases List.mem_append.1 hm with hm | hm
    · exact g3 hm
    · obtain ⟨x, hx, e⟩ := List.mem_map.1 hm
      have := h1 x hx
      omega) h
end
end Go.Eng

/-
  The engine, part 3: what single operations give.
-/
namespace Go.Eng
open Go
section
variable {c : Cx} {env : Env} {F : Know} {own : Own} {Q : Exit → Act → World → Prop}
variable {d : Option Tmp} {ty : TypeId} {ps : String} {af : Array Edge} {g : Option (Nat × Bool)}
theorem det_of {o : Oper} {v : Value} (h : ∀ a, EnvOk c.n c.df env a → ∀ w, Sat c F own w → (execOp a.eval o).run c.P w = .ok (.value v) w) : Det c F own env o v := by
  intro a ha w hw
  rw [h a ha w hw]
  exact ⟨rfl, rfl⟩
theorem det_move {x : Operand} {v : Value} (hx : Env.ev env x = some v) : Det c F own env ⟨d, .move x, ty, ps, af, g⟩ v :=
  det_of fun a ha w _ => by simp [execOp, ha.eval hx]
theorem det_assign {x : Operand} {v : Value} (hx : Env.ev env x = some v) : Det c F own env ⟨d, .assign x, ty, ps, af, g⟩ v :=
  det_of fun a ha w _ => by simp [execOp, ha.eval hx]
theorem det_pickT {x y z : Operand} {v : Value} (hx : Env.ev env x = some (.bool true)) (hy : Env.ev env y = some v) : Det c F own env ⟨d, .pick x y z, ty, ps, af, g⟩ v :=
  det_of fun a ha w _ => by simp [execOp, ha.eval hx, ha.eval hy, asBool]
theorem det_pickF {x y z : Operand} {v : Value} (hx : Env.ev env x = some (.bool false)) (hz : Env.ev env z = some v) : Det c F own env ⟨d, .pick x y z, ty, ps, af, g⟩ v :=
  det_of fun a ha w _ => by simp [execOp, ha.eval hx, ha.eval hz, asBool]
/-! ### Numbers -/
theorem run_guard_int {P : Program} {w : World} {op : BinOp} {t : TypeId} {x y : Operand} {k k' : IntKind} {m n : Int} : (eqGuard op t x y (.int k m) (.int k' n)).run P w = .ok () w := by
  cases op <;> simp [eqGuard]
theorem det_int {op : BinOp} {t yt : TypeId} {x y : Operand} {k k' : IntKind} {m n : Int} {v : Value} (hx : Env.ev env x = some (.int k m)) (hy : Env.ev env y = some (.int k' n))
    (h : ∀ w, (binOp op t (.int k m) (.int k' n)).run c.P w = .ok v w) : Det c F own env ⟨d, .binOp op t x y yt, ty, ps, af, g⟩ v :=
  det_of fun a ha w _ => by simp [execOp, ha.eval hx, ha.eval hy, run_guard_int, h]
theorem det_add {t yt : TypeId} {x y : Operand} {k : IntKind} {m n : Int} (hx : Env.ev env x = some (.int k m)) (hy : Env.ev env y = some (.int k n)) :
    Det c F own env ⟨d, .binOp .add t x y yt, ty, ps, af, g⟩ (.int k (k.wrap (m + n))) := det_int hx hy fun w => by simp [binOp, Op.intArith]
theorem det_sub {t yt : TypeId} {x y : Operand} {k : IntKind} {m n : Int} (hx : Env.ev env x = some (.int k m)) (hy : Env.ev env y = some (.int k n)) :
    Det c F own env ⟨d, .binOp .sub t x y yt, ty, ps, af, g⟩ (.int k (k.wrap (m - n))) := det_int hx hy fun w => by simp [binOp, Op.intArith]
theorem det_mul {t yt : TypeId} {x y : Operand} {k : IntKind} {m n : Int} (hx : Env.ev env x = some (.int k m)) (hy : Env.ev env y = some (.int k n)) :
    Det c F own env ⟨d, .binOp .mul t x y yt, ty, ps, af, g⟩ (.int k (k.wrap (m * n))) := det_int hx hy fun w => by simp [binOp, Op.intArith]
theorem det_rem {t yt : TypeId} {x y : Operand} {k : IntKind} {m n : Int} (hx : Env.ev env x = some (.int k m)) (hy : Env.ev env y = some (.int k n)) (h0 : n ≠ 0) :
    Det c F own env ⟨d, .binOp .rem t x y yt, ty, ps, af, g⟩ (.int k (m.tmod n)) := det_int hx hy fun w => by simp [binOp, Op.intDiv, h0]
theorem det_quo {t yt : TypeId} {x y : Operand} {k : IntKind} {m n : Int} (hx : Env.ev env x = some (.int k m)) (hy : Env.ev env y = some (.int k n)) (h0 : n ≠ 0) :
    Det c F own env ⟨d, .binOp .quo t x y yt, ty, ps, af, g⟩ (.int k (k.wrap (m.tdiv n))) := det_int hx hy fun w => by simp [binOp, Op.intDiv, h0]
theorem wrap_in {n : Int} (h1 : -9223372036854775808 ≤ n) (h2 : n ≤ 9223372036854775807) : IntKind.i64.wrap n = n := by
  simp only [IntKind.wrap, IntKind.bits, IntKind.signed, Bool.true_and]
  by_cases h : n % (2 ^ 64 : Int) ≥ (2 ^ (64 - 1) : Int)
  · rw [if_pos (by simpa using h)]; omega
  · rw [if_neg (by simpa using h)]; omega
theorem det_addI {t yt : TypeId} {x y : Operand} {m n : Int} (hx : Env.ev env x = some (.int .i64 m)) (hy : Env.ev env y = some (.int .i64 n)) (h : -9223372036854775808 ≤ m + n ∧ m + n ≤ 9223372036854775807) :
    Det c F own env ⟨d, .binOp .add t x y yt, ty, ps, af, g⟩ (.int .i64 (m + n)) := by
  have := det_add (c := c) (F := F) (own := own) (d := d) (t := t) (yt := yt) (ty := ty) (ps := ps) (af := af) (g := g) hx hy
  rwa [wrap_in h.1 h.2] at this
theorem det_subI {t yt : TypeId} {x y : Operand} {m n : Int} (hx : Env.ev env x = some (.int .i64 m)) (hy : Env.ev env y = some (.int .i64 n)) (h : -9223372036854775808 ≤ m - n ∧ m - n ≤ 9223372036854775807) :
    Det c F own env ⟨d, .binOp .sub t x y yt, ty, ps, af, g⟩ (.int .i64 (m - n)) := by
  have := det_sub (c := c) (F := F) (own := own) (d := d) (t := t) (yt := yt) (ty := ty) (ps := ps) (af := af) (g := g) hx hy
  rwa [wrap_in h.1 h.2] at this
theorem det_mulI {t yt : TypeId} {x y : Operand} {m n : Int} (hx : Env.ev env x = some (.int .i64 m)) (hy : Env.ev env y = some (.int .i64 n)) (h : -9223372036854775808 ≤ m * n ∧ m * n ≤ 9223372036854775807) :
    Det c F own env ⟨d, .binOp .mul t x y yt, ty, ps, af, g⟩ (.int .i64 (m * n)) := by
  have := det_mul (c := c) (F := F) (own := own) (d := d) (t := t) (yt := yt) (ty := ty) (ps := ps) (af := af) (g := g) hx hy
  rwa [wrap_in h.1 h.2] at this
theorem det_quoI {t yt : TypeId} {x y : Operand} {m n : Int} (hx : Env.ev env x = some (.int .i64 m)) (hy : Env.ev env y = some (.int .i64 n)) (h0 : n ≠ 0) (h : -9223372036854775808 ≤ m.tdiv n ∧ m.tdiv n ≤ 9223372036854775807) :
    Det c F own env ⟨d, .binOp .quo t x y yt, ty, ps, af, g⟩ (.int .i64 (m.tdiv n)) := by
  have := det_quo (c := c) (F := F) (own := own) (d := d) (t := t) (yt := yt) (ty := ty) (ps := ps) (af := af) (g := g) hx hy h0
  rwa [wrap_in h.1 h.2] at this
theorem det_remP {t yt : TypeId} {x y : Operand} {k : IntKind} {m n : Int} (hx : Env.ev env x = some (.int k m)) (hy : Env.ev env y = some (.int k n)) (h : 0 ≤ m ∧ 0 < n) :
    Det c F own env ⟨d, .binOp .rem t x y yt, ty, ps, af, g⟩ (.int k (m % n)) := by
  have := det_rem (c := c) (F := F) (own := own) (d := d) (t := t) (yt := yt) (ty := ty) (ps := ps) (af := af) (g := g) hx hy (by omega)
  rwa [Int.tmod_eq_emod_of_nonneg h.1] at this
theorem det_quoP {t yt : TypeId} {x y : Operand} {m n : Int} (hx : Env.ev env x = some (.int .i64 m)) (hy : Env.ev env y = some (.int .i64 n)) (h : 0 ≤ m ∧ 0 < n) (hm : m ≤ 9223372036854775807) :
    Det c F own env ⟨d, .binOp .quo t x y yt, ty, ps, af, g⟩ (.int .i64 (m / n)) := by
  have := det_quo (c := c) (F := F) (own := own) (d := d) (t := t) (yt := yt) (ty := ty) (ps := ps) (af := af) (g := g) hx hy (by omega)
  rw [Int.tdiv_eq_ediv_of_nonneg h.1] at this
  have h1 : m / n ≤ m := Int.ediv_le_self _ h.1
  have h2 : 0 ≤ m / n := Int.ediv_nonneg h.1 (by omega)
  rwa [wrap_in (by omega) (by omega)] at this
def bitsOf (op : BinOp) (k : IntKind) (m n : Int) : Int :=
  let a := BitVec.ofInt k.bits m
  let b := BitVec.ofInt k.bits n
  match op with
  | .and => k.wrap (a &&& b).toNat
  | .or => k.wrap (a ||| b).toNat
  | .xor => k.wrap (a ^^^ b).toNat
  | _ => k.wrap (a &&& ~~~b).toNat
theorem det_and {t yt : TypeId} {x y : Operand} {k : IntKind} {m n : Int} (hx : Env.ev env x = some (.int k m)) (hy : Env.ev env y = some (.int k n)) :
    Det c F own env ⟨d, .binOp .and t x y yt, ty, ps, af, g⟩ (.int k (bitsOf .and k m n)) := det_int hx hy fun w => by simp [binOp, Op.intBits, bitsOf]
theorem det_andNot {t yt : TypeId} {x y : Operand} {k : IntKind} {m n : Int} (hx : Env.ev env x = some (.int k m)) (hy : Env.ev env y = some (.int k n)) :
    Det c F own env ⟨d, .binOp .andNot t x y yt, ty, ps, af, g⟩ (.int k (bitsOf .andNot k m n)) := det_int hx hy fun w => by simp [binOp, Op.intBits, bitsOf]
theorem det_shr {t yt : TypeId} {x y : Operand} {k k' : IntKind} {m n : Int} (hx : Env.ev env x = some (.int k m)) (hy : Env.ev env y = some (.int k' n)) (h0 : 0 ≤ n) :
    Det c F own env ⟨d, .binOp .shr t x y yt, ty, ps, af, g⟩ (.int k (m.fdiv (2 ^ (min n.toNat k.bits)))) := det_int hx hy fun w => by
  have : ¬ n < 0 := by omega
  simp [binOp, Op.shift, this]
theorem det_eql {t yt : TypeId} {x y : Operand} {k : IntKind} {m n : Int} (hx : Env.ev env x = some (.int k m)) (hy : Env.ev env y = some (.int k n)) :
    Det c F own env ⟨d, .binOp .eql t x y yt, ty, ps, af, g⟩ (.bool (m == n)) := det_int hx hy fun w => by simp [binOp, Op.intCmp]
theorem det_neq {t yt : TypeId} {x y : Operand} {k : IntKind} {m n : Int} (hx : Env.ev env x = some (.int k m)) (hy : Env.ev env y = some (.int k n)) :
    Det c F own env ⟨d, .binOp .neq t x y yt, ty, ps, af, g⟩ (.bool (m != n)) := det_int hx hy fun w => by simp [binOp, Op.intCmp]
theorem det_lss {t yt : TypeId} {x y : Operand} {k : IntKind} {m n : Int} (hx : Env.ev env x = some (.int k m)) (hy : Env.ev env y = some (.int k n)) :
    Det c F own env ⟨d, .binOp .lss t x y yt, ty, ps, af, g⟩ (.bool (decide (m < n))) := det_int hx hy fun w => by simp [binOp, Op.intCmp]
theorem det_leq {t yt : TypeId} {x y : Operand} {k : IntKind} {m n : Int} (hx : Env.ev env x = some (.int k m)) (hy : Env.ev env y = some (.int k n)) :
    Det c F own env ⟨d, .binOp .leq t x y yt, ty, ps, af, g⟩ (.bool (decide (m ≤ n))) := det_int hx hy fun w => by simp [binOp, Op.intCmp]
theorem det_gtr {t yt : TypeId} {x y : Operand} {k : IntKind} {m n : Int} (hx : Env.ev env x = some (.int k m)) (hy : Env.ev env y = some (.int k n)) :
    Det c F own env ⟨d, .binOp .gtr t x y yt, ty, ps, af, g⟩ (.bool (decide (n < m))) := det_int hx hy fun w => by simp [binOp, Op.intCmp]
theorem det_geq {t yt : TypeId} {x y : Operand} {k : IntKind} {m n : Int} (hx : Env.ev env x = some (.int k m)) (hy : Env.ev env y = some (.int k n)) :
    Det c F own env ⟨d, .binOp .geq t x y yt, ty, ps, af, g⟩ (.bool (decide (n ≤ m))) := det_int hx hy fun w => by simp [binOp, Op.intCmp]
theorem det_eqlS {t yt : TypeId} {x y : Operand} {m n : Array Value} {b : Bool} (hx : Env.ev env x = some (.agg m)) (hy : Env.ev env y = some (.agg n))
    (hg : c.P.eqGuardType c.P.depth t = false) (h : ∀ w, (Op.equal t (.agg m) (.agg n)).run c.P w = .ok b w) :
    Det c F own env ⟨d, .binOp .eql t x y yt, ty, ps, af, g⟩ (.bool b) :=
  det_of fun a ha w _ => by simp [execOp, ha.eval hx, ha.eval hy, run_eqGuard_agg w _ t x y m n hg, binOp, h]
theorem det_neqS {t yt : TypeId} {x y : Operand} {m n : Array Value} {b : Bool} (hx : Env.ev env x = some (.agg m)) (hy : Env.ev env y = some (.agg n))
    (hg : c.P.eqGuardType c.P.depth t = false) (h : ∀ w, (Op.equal t (.agg m) (.agg n)).run c.P w = .ok b w) :
    Det c F own env ⟨d, .binOp .neq t x y yt, ty, ps, af, g⟩ (.bool (!b)) :=
  det_of fun a ha w _ => by simp [execOp, ha.eval hx, ha.eval hy, run_eqGuard_agg w _ t x y m n hg, binOp, h]
theorem det_not {t : TypeId} {x : Operand} {b : Bool} (hx : Env.ev env x = some (.bool b)) : Det c F own env ⟨d, .unOp .not t x, ty, ps, af, g⟩ (.bool (!b)) :=
  det_of fun a ha w _ => by simp [execOp, ha.eval hx, Op.unary]
/-! ### Values of several cells -/
def nthV : List Value → Nat → Option Value
  | [], _ => none
  | v :: _, 0 => some v
  | _ :: r, n + 1 => nthV r n
theorem nthV_eq (l : List Value) (n : Nat) : nthV l n = l[n]? := by
  induction l generalizing n with
  | nil => simp [nthV]
  | cons v r ih => cases n <;> simp [nthV, ih]
def takeV : Nat → List Value → (List Value → Option (List Value)) → Option (List Value)
  | 0, _, k => k []
  | _ + 1, [], _ => none
  | n + 1, v :: r, k => takeV n r fun s => k (v :: s)
def dropV : Nat → List Value → List Value
  | 0, l => l
  | _ + 1, [] => []
  | n + 1, _ :: r => dropV n r
def cutV (off n : Nat) (l : List Value) : Option (List Value) := takeV n (dropV off l) some
theorem takeV_some {n : Nat} {l : List Value} {k : List Value → Option (List Value)} {r : List Value} (h : takeV n l k = some r) : n ≤ l.length ∧ k (l.take n) = some r := by
  induction n generalizing l k with
  | zero => exact ⟨Nat.zero_le _, by simpa [takeV] using h⟩
  | succ n ih =>
    cases l with
    | nil => simp [takeV] at h
    | cons v l =>
      simp only [takeV] at h
      obtain ⟨h1, h2⟩ := ih h
      exact ⟨by simp; omega, by simpa using h2⟩
theorem dropV_eq (n : Nat) (l : List Value) : dropV n l = l.drop n := by
  induction n generalizing l with
  | zero => rfl
  | succ n ih => cases l <;> simp [dropV, ih]
theorem cutV_some {off n : Nat} {l r : List Value} (h : cutV off n l = some r) : off + n ≤ l.length ∨ n = 0 := by
  obtain ⟨h1, _⟩ := takeV_some h
  rw [dropV_eq, List.length_drop] at h1
  omega
theorem cutV_eq {off n : Nat} {l r : List Value} (h : cutV off n l = some r) : r = (l.drop off).take n := by
  obtain ⟨_, h2⟩ := takeV_some h
  rw [dropV_eq] at h2
  simpa using h2.symm
theorem cutV_get {off n : Nat} {l r : List Value} (h : cutV off n l = some r) {i : Nat} (hi : i < n) : l[off + i]? = r[i]? ∧ r.length = n := by
  have h1 := cutV_some h
  rw [cutV_eq h]
  constructor
  · rw [List.getElem?_take_of_lt hi, List.getElem?_drop]
  · simp; omega
def setV : Nat → List Value → List Value → (List Value → Option (List Value)) → Option (List Value)
  | 0, [], l, k => k l
  | 0, v :: vs, _ :: l, k => setV 0 vs l fun s => k (v :: s)
  | 0, _ :: _, [], _ => none
  | n + 1, vs, u :: l, k => setV n vs l fun s => k (u :: s)
  | _ + 1, _, [], _ => none
def splice (l : List Value) (off : Nat) (vs : List Value) : List Value := l.take off ++ (vs ++ l.drop (off + vs.length))
theorem setV_some : ∀ {off : Nat} {vs l : List Value} {k : List Value → Option (List Value)} {r : List Value}, setV off vs l k = some r → off + vs.length ≤ l.length ∧ k (splice l off vs) = some r := by
  intro off
  induction off with
  | zero =>
    intro vs
    induction vs with
    | nil => intro l k r h; exact ⟨by simp, by simpa [setV, splice] using h⟩
    | cons v vs ih =>
      intro l k r h
      cases l with
      | nil => simp [setV] at h
      | cons u l =>
        simp only [setV] at h
        obtain ⟨h1, h2⟩ := ih h
        exact ⟨by simp at h1 ⊢; omega, by simpa [splice] using h2⟩
  | succ n ih =>
    intro vs l k r h
    cases l with
    | nil => cases vs <;> simp [setV] at h
    | cons u l =>
      have h' : setV n vs l (fun s => k (u :: s)) = some r := by cases vs <;> simpa [setV] using h
      obtain ⟨h1, h2⟩ := ih h'
      refine ⟨by simp; omega, ?_⟩
      have e : splice (u :: l) (n + 1) vs = u :: splice l n vs := by
        simp only [splice, List.take_succ_cons, List.cons_append]
        rw [show n + 1 + vs.length = (n + vs.length) + 1 by omega, List.drop_succ_cons]
      rw [e]; exact h2
structure TOne (P : Program) (t : TypeId) : Prop where
  agg : ∀ w, (isAgg t).run P w = .ok false w
  size : ∀ w, (sizeOf t).run P w = .ok 1 w
structure TAgg (P : Program) (t : TypeId) (n : Nat) : Prop where
  agg : ∀ w, (isAgg t).run P w = .ok true w
  size : ∀ w, (sizeOf t).run P w = .ok n w
theorem det_extract {x : Operand} {i : Nat} {vs : List Value} {v : Value} (hx : Env.ev env x = some (.tuple vs.toArray)) (hv : nthV vs i = some v) : Det c F own env ⟨d, .extract x i, ty, ps, af, g⟩ v :=
  det_of fun a ha w _ => by
    rw [nthV_eq] at hv
    simp [execOp, ha.eval hx, Instr.extract, hv]
theorem run_part_one {P : Program} {t : TypeId} {cs : List Value} {off : Nat} {v : Value} {w : World} (ht : TOne P t) (hv : nthV cs off = some v) : (part t cs.toArray off).run P w = .ok v w := by
  rw [nthV_eq] at hv
  simp [part, ht.agg, hv]
theorem run_part_agg {P : Program} {t : TypeId} {cs r : List Value} {off n : Nat} {w : World} (ht : TAgg P t n) (hv : cutV off n cs = some r) : (part t cs.toArray off).run P w = .ok (.agg r.toArray) w := by
  have e : (cs.drop off).take n = r := (cutV_eq hv).symm
  simp [part, ht.agg, ht.size, e]
structure FieldAt (P : Program) (t : TypeId) (i : Nat) (u : TypeId) (off : Nat) : Prop where
  run : ∀ cs w, (Instr.field t (.agg cs) i).run P w = (part u cs off).run P w
  addr : ∀ a w, (Instr.fieldAt t (.pointer (some a)) i).run P w = .ok (.pointer (some (a.add off))) w
theorem det_fieldAddr {t u : TypeId} {i off : Nat} {x : Operand} {A : Addr} (hf : FieldAt c.P t i u off) (hx : Env.ev env x = some (.pointer (some A))) :
    Det c F own env ⟨d, .fieldAddr t x i, ty, ps, af, g⟩ (.pointer (some (A.add off))) :=
  det_of fun a ha w _ => by simp [execOp, ha.eval hx, hf.addr]
structure ArrayOf (P : Program) (t : TypeId) (len : Nat) (e : TypeId) (sz : Nat) : Prop where
  ud : P.underlying t = some (.array len e)
  size : ∀ w, (sizeOf e).run P w = .ok sz w
theorem det_index1 {t e : TypeId} {len : Nat} {x y : Operand} {cs : List Value} {k : IntKind} {i : Int} {v : Value} (ht : ArrayOf c.P t len e 1) (he : TOne c.P e) (hx : Env.ev env x = some (.agg cs.toArray)) (hy : Env.ev env y = some (.int k i))
    (hi : 0 ≤ i ∧ i < len) (hv : nthV cs i.toNat = some v) : Det c F own env ⟨d, .index t x y, ty, ps, af, g⟩ v :=
  det_of fun a ha w _ => by
    simp [execOp, ha.eval hx, ha.eval hy, Instr.index, asIntOf, run_underlying ht.ud, hi, ht.size, run_part_one he hv]
theorem det_indexN {t e : TypeId} {len n : Nat} {x y : Operand} {cs r : List Value} {k : IntKind} {i : Int} (ht : ArrayOf c.P t len e n) (he : TAgg c.P e n) (hx : Env.ev env x = some (.agg cs.toArray)) (hy : Env.ev env y = some (.int k i))
    (hi : 0 ≤ i ∧ i < len) (hv : cutV (i.toNat * n) n cs = some r) : Det c F own env ⟨d, .index t x y, ty, ps, af, g⟩ (.agg r.toArray) :=
  det_of fun a ha w _ => by
    simp [execOp, ha.eval hx, ha.eval hy, Instr.index, asIntOf, run_underlying ht.ud, hi, ht.size, run_part_agg he hv]
theorem det_build {t : TypeId} {parts : List (Nat × Operand)} {vs : List (Nat × Value)} {v : Value} (hp : parts.mapM (fun p => (Env.ev env p.2).map fun u => (p.1, u)) = some vs)
    (h : ∀ w, (Instr.build t vs.toArray).run c.P w = .ok v w) : Det c F own env ⟨d, .build t parts.toArray, ty, ps, af, g⟩ v :=
  det_of fun a ha w _ => by
    have e : (parts.toArray.map fun (p : Nat × Operand) => (p.1, a.eval p.2)) = vs.toArray := by
      rw [List.map_toArray]
      congr 1
      clear h
      induction parts generalizing vs with
      | nil => simp at hp; simp [hp]
      | cons p r ih =>
        simp only [List.mapM_cons, Option.bind_eq_bind, Option.bind_eq_some_iff, Option.map_eq_some_iff, Option.pure_def, Option.some.injEq] at hp
        obtain ⟨x, ⟨u, hu, rfl⟩, r', hr', rfl⟩ := hp
        simp [ih hr', ha.eval hu]
    simp only [execOp]
    rw [show (fun (x : Nat × Operand) => match x with | (i, x) => (i, a.eval x)) = fun (p : Nat × Operand) => (p.1, a.eval p.2) from rfl, e]
    simp [h]
end
end Go.Eng
