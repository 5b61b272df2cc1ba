/-
  The engine, part 14: a barrier that may come up ahead of operations that it is unordered with.
-/
import Derived.Test.YtichjhggoioenaaEng13
namespace Go.Eng
open Go

/-- Operations that hand back a value and enter nothing. -/
def plainOp : Op → Bool
  | .move _ | .assign _ | .pick .. | .load .. | .nilCheck _ | .binOp .. | .unOp .. | .convert .. | .slice .. | .fieldAddr .. | .field .. | .indexAddr .. | .index .. | .extract .. => true
  | _ => false

theorem run_value {P : Program} {w w' : World} {s : Sem Value} {nx : Next} (h : (do let x ← s; pure (Next.value x) : Sem Next).run P w = .ok nx w') : ∃ v, nx = .value v := by
  simp only [Sem.run_bind] at h
  generalize s.run P w = r at h
  cases r with
  | ok v w1 => simp only [Result.andThen_ok, Sem.run_pure] at h; injection h with h1 h2; exact ⟨v, h1.symm⟩
  | halt x w1 => simp [Result.andThen] at h

theorem plain_value {P : Program} {w w' : World} {ρ : Operand → Value} {o : Oper} {nx : Next} (hp : plainOp o.op = true) (h : (execOp ρ o).run P w = .ok nx w') : ∃ v, nx = .value v := by
  unfold execOp at h
  cases ho : o.op <;> rw [ho] at hp h <;> simp only [plainOp, Bool.false_eq_true] at hp <;> dsimp only at h
  case move x => simp only [Sem.run_pure] at h; injection h with h1 h2; exact ⟨_, h1.symm⟩
  case assign x => simp only [Sem.run_pure] at h; injection h with h1 h2; exact ⟨_, h1.symm⟩
  case pick c a b =>
    simp only [Sem.run_bind] at h
    generalize (asBool (ρ c)).run P w = r at h
    cases r with
    | ok v w1 => simp only [Result.andThen_ok, Sem.run_pure] at h; injection h with h1 h2; exact ⟨_, h1.symm⟩
    | halt x w1 => simp [Result.andThen] at h
  case nilCheck x =>
    split at h
    · simp [runtimePanic] at h
    · simp [runtimePanic] at h
    · simp [runtimePanic] at h
    · split at h
      · simp [runtimePanic] at h
      · simp only [Sem.run_bind] at h
        generalize Sem.run P program _ = r at h
        cases r with
        | halt x w1 => simp [Result.andThen] at h
        | ok p w1 =>
          simp only [Result.andThen_ok] at h
          generalize Sem.run P (nilAhead _ _ _ _) _ = r2 at h
          cases r2 with
          | halt x w1 => simp [Result.andThen] at h
          | ok b w2 =>
            simp only [Result.andThen_ok] at h
            split at h
            · simp only [Sem.run_bind, unsupported, Sem.run_halt] at h
              simp [Result.andThen] at h
            · simp only [Sem.run_pure] at h; injection h with h1 h2; exact ⟨_, h1.symm⟩
      · simp only [Sem.run_pure] at h; injection h with h1 h2; exact ⟨_, h1.symm⟩
    · simp only [Sem.run_pure] at h; injection h with h1 h2; exact ⟨_, h1.symm⟩
  all_goals exact run_value h

section
variable {P : Program} {ops : Array Oper} {md : Region.Mode} {C CP : World → Prop} {n0 : Nat} {kd : Nat → Kind} {ro : Option Nat}

def isDet : Kind → Bool
  | .det => true
  | _ => false

/-- The barrier: neither a call nor a defer; it goes through, and the class is kept. -/
def BarOk (P : Program) (ops : Array Oper) (C : World → Prop) (n0 : Nat) (oj : Oper) (a : Act) (w : World) (L : TNews) : Prop :=
  Region.wanted oj (yielded ops a.tmps) = true ∧ ∃ nx v w', (execOp a.eval oj).run P w = .ok nx w' ∧ ((nx = .value v) ∨ (nx = .skip ∧ v = undef)) ∧ C w' ∧ HoldsL n0 L w'

/-- What is not ahead of the barrier is plain, apart from it, and does not wait for it. -/
def barPlain (md : Region.Mode) (ops : Array Oper) (f j : Nat) (oj : Oper) (kd : Nat → Kind) : Bool :=
  let S := clos md ops f (dmask md oj)
  (List.range j).all fun i => match ops[i]? with
    | none => false
    | some oi => !(oi.after.any fun e => Region.binds md e && e.on == j) && (S.testBit i || (plainOp oi.op && isDet (kd i) && oi.apart ops oj))

theorem wpAny_after {f j r : Nat} {oj : Oper} {Z : ZK} {Q : Exit → Act → World → Prop} {vj : Value} {wp w' : World} {nxj : Next} (hj : ops[j]? = some oj) (hB1 : barB md ops f (j + 1) = true) (hsel : Region.noSelect ops = true)
    (hpl : barPlain md ops f j oj kd = true) (hC' : C w') (hrun' : (nxj = .value vj) ∨ (nxj = .skip ∧ vj = undef))
    (hZ : ∀ a L, HoldsL n0 L wp → HoldsL n0 L w' → Z a L → (execOp a.eval oj).run P wp = .ok nxj w' → Region.wanted oj (yielded ops a.tmps) = true → wpAnyIn (FR ro) 0 P md ops Q r (lk ops.size (j + 1)) (a.put oj.dst vj) w') :
    ∀ (fuel : Nat) (listed : Array Bool) (a : Act) (L : TNews), listed.size = ops.size → Dn md ops listed → (∀ i, j ≤ i → i < ops.size → listed.getD i true = false) → (∀ e ∈ oj.after, Region.binds md e = true → listed.getD e.on false = true) →
      Few j listed fuel → HoldsL n0 L wp → HoldsL n0 L w' → (execOp a.eval oj).run P wp = .ok nxj w' → Region.wanted oj (yielded ops a.tmps) = true → wpAnyG P md ops C n0 kd j Z fuel listed a L →
      wpAnyIn (FR ro) 0 P md ops Q (fuel + r) (listed.setIfInBounds j true) (a.put oj.dst vj) w' := by
  have hjn : j < ops.size := (Array.getElem?_eq_some_iff.1 hj).1
  intro fuel
  induction fuel with
  | zero =>
    intro listed a L hsz hd hup hw hfew hL hL' hrun hwant h
    have : listed.setIfInBounds j true = lk ops.size (j + 1) := by
      rw [← lk_step]
      congr 1
      apply Array.ext
      · rw [hsz, lk_size]
      · intro i h1 h2
        have hin : i < ops.size := by rw [← hsz]; exact h1
        have e2 : (lk ops.size j)[i] = decide (i < j) := by simp [lk]
        rw [e2]
        rcases Nat.lt_or_ge i j with hi | hi
        · have := hfew [i]
          simp only [List.nodup_cons, List.not_mem_nil, not_false_eq_true, List.nodup_nil, and_self, List.mem_cons, or_false, forall_eq, List.length_cons, List.length_nil, Nat.zero_add, Nat.le_zero_eq, Nat.one_ne_zero, imp_false, true_implies, not_and] at this
          have := this hi
          have e3 : listed.getD i true = listed[i] := by simp [h1]
          rw [e3] at this
          simp [hi]
          simpa using this
        · have := hup i hi hin
          have e3 : listed.getD i true = listed[i] := by simp [h1]
          rw [e3] at this
          rw [this]
          simp; omega
    rw [this]
    have := hZ a L hL hL' h hrun hwant
    simpa using this
  | succ fuel ih =>
    intro listed a L hsz hd hup hw hfew hL hL' hrun hwant h
    obtain ⟨hne, hall⟩ := h ⟨w', hC', hL'⟩
    have hjr : j ∈ Region.ready md ops listed := mem_ready.2 ⟨hup j (Nat.le_refl _) hjn, oj, hj, hw⟩
    have hd2 : Dn md ops (listed.setIfInBounds j true) := hd.step hjr
    have hjl : (listed.setIfInBounds j true).getD j false = true := by have : j < listed.size := by omega
                                                                       simp [this]
    -- an operation below j has not come up yet
    obtain ⟨x, hx⟩ := List.exists_mem_of_ne_nil _ hne
    obtain ⟨hx1, hxj⟩ := mem_sready.1 hx
    have hnf : ¬ ∀ i, i < j + 1 → (listed.setIfInBounds j true).getD i false = true := by
      intro hf
      have h0 := (mem_ready.1 hx1).1
      have h1 := hf x (by omega)
      rw [getD_set_ne false (by omega)] at h1
      have hxn : x < listed.size := by omega
      simp [hxn] at h0 h1
      rw [h0] at h1; cases h1
    have harr : fuel + 1 + r = (fuel + r) + 1 := by omega
    rw [harr]
    refine ⟨fun h0 => ?_, fun i hi => ?_⟩
    · exfalso
      have := ready_mono (i := j) hx1 (by omega)
      rw [h0] at this; cases this
    · have hi0 := mem_ready.1 hi
      have hij : i ≠ j := by
        rintro rfl
        have := hi0.1
        rw [getD_set_self] at this; cases this
      have him : i < j := by
        rcases Nat.lt_or_ge i (j + 1) with h' | h'
        · omega
        · refine (hnf (barB_spec hB1 (by simpa using hsz) hd2 (fun i' hi' hin' => ?_) hi h')).elim
          rw [getD_set_ne true (by omega)]; exact hup i' (by omega) hin'
      obtain ⟨hun, o, ho, hwt⟩ := hi0
      rw [getD_set_ne true (Ne.symm hij)] at hun
      have hpi := List.all_eq_true.1 hpl i (List.mem_range.2 him)
      simp only [ho, Bool.and_eq_true, Bool.or_eq_true, Bool.not_eq_true'] at hpi
      obtain ⟨hnw, hpi⟩ := hpi
      have hirl : i ∈ Region.ready md ops listed := by
        refine mem_ready.2 ⟨hun, o, ho, fun e he hb => ?_⟩
        have := hwt e he hb
        have hne' : j ≠ e.on := by
          intro e'
          have h1 : (o.after.any fun e => Region.binds md e && e.on == j) = true := Array.any_eq_true'.2 ⟨e, he, by simp [hb, e']⟩
          rw [hnw] at h1; cases h1
        rwa [getD_set_ne false hne'] at this
      have hpl2 : plainOp o.op = true ∧ isDet (kd i) = true ∧ o.apart ops oj = true := by
        rcases hpi with hpi | hpi
        · exfalso
          have hl : Listed listed (dmask md oj) := by
            intro b hb
            obtain ⟨e, he, hbi, rfl⟩ := dmask_spec md oj b hb
            exact hw e he hbi
          have := clos_listed hd f _ hl i hpi
          have hin : i < listed.size := by omega
          simp [hin] at this hun
          rw [hun] at this; cases this
        · exact ⟨hpi.1.1, hpi.1.2, hpi.2⟩
      obtain ⟨hp1, hp2, hp3⟩ := hpl2
      obtain ⟨d1, d2, d3⟩ := Oper.apart_spec hp3
      obtain ⟨o', ho', hg⟩ := hall i (mem_sready.2 ⟨hirl, him⟩)
      rw [ho] at ho'; cases ho'
      have hg := hg ⟨w', hC', hL'⟩
      have hselo : ∀ cs b, o.op ≠ .select cs b := fun cs b => Region.noSelect_spec hsel i o cs b ho
      have hselj : ∀ cs b, oj.op ≠ .select cs b := fun cs b => Region.noSelect_spec hsel j oj cs b hj
      have next : ∀ (v : Value) (L2 : TNews), HoldsL n0 L2 wp → HoldsL n0 L2 w' → wpAnyG P md ops C n0 kd j Z fuel (listed.setIfInBounds i true) (a.put o.dst v) L2 → wpAnyIn (FR ro) 0 P md ops Q (fuel + r) ((listed.setIfInBounds j true).setIfInBounds i true) ((a.put oj.dst vj).put o.dst v) w' := by
        intro v L2 hL2 hL2' h'
        rw [Array.setIfInBounds_comm _ _ (Ne.symm hij), Act.put_comm a vj v (fun d hd he => d2 d he hd)]
        refine ih _ _ L2 (by simpa using hsz) (hd.step hirl) (fun i' hi' hin' => ?_) (fun e he hb => getD_set_true (hw e he hb)) (hfew.step him hun) hL2 hL2' ?_ ?_ h'
        · rw [getD_set_ne true (by omega)]; exact hup i' hi' hin'
        · rw [execOp_put (ops := ops) oj hselj a o.dst v d1]; exact hrun
        · rw [wanted_put oj a o.dst v d1]; exact hwant
      unfold wpOpIn
      simp only [ho]
      rw [wanted_put o a oj.dst vj d3]
      split
      · rename_i hwn
        simp only [hwn, if_true] at hg
        obtain ⟨S, hS, hk⟩ := hg
        have hcl : CL ops C n0 o L w' := CL_of hC' hL'
        cases hkd : kd i with
        | new => rw [hkd] at hp2; cases hp2
        | mem φ => rw [hkd] at hp2; cases hp2
        | det =>
          rw [hkd] at hS
          obtain ⟨v, hv, hSv⟩ := hS
          have hdu := hv w' hcl
          have hK := hk v [] ((hSv v []).2 rfl)
          have hK' : wpAnyG P md ops C n0 kd j Z fuel (listed.setIfInBounds i true) (a.put o.dst v) L := by simpa [tagL] using hK
          refine ⟨fun _ _ => trivial, ?_⟩
          have e1 : execOp (a.put oj.dst vj).eval o = execOp a.eval o := execOp_put (ops := ops) o hselo a oj.dst vj d3
          rw [semAt_run (by rw [e1]; exact hdu.not), e1]
          have hpv := fun nx w2 (hh : (execOp a.eval o).run P w' = .ok nx w2) => plain_value hp1 hh
          generalize (execOp a.eval o).run P w' = res at *
          cases res with
          | halt x w2 => simp only [detUpon] at hdu
          | ok nx w2 =>
            obtain ⟨u, rfl⟩ := hpv nx w2 rfl
            simp only [detUpon] at hdu
            obtain ⟨rfl, rfl⟩ := hdu
            simp only [Oper.uponIn]
            exact next _ _ hL hL' hK'
      · rename_i hwn
        simp only [hwn, Bool.false_eq_true, if_false] at hg
        exact ⟨fun _ _ => trivial, next _ _ hL hL' hg⟩


/-- What is left, run to its end in one world: the barrier's operands stay as they are. -/
theorem after_run {f j : Nat} {oj : Oper} {Z : ZK} {w : World} (hsel : Region.noSelect ops = true) (hj : ops[j]? = some oj)
    (hpl : barPlain md ops f j oj kd = true) (hC' : C w) :
    ∀ (fuel : Nat) (listed : Array Bool) (a : Act) (L : TNews), listed.size = ops.size → Dn md ops listed → (∀ i, j ≤ i → i < ops.size → listed.getD i true = false) → (∀ e ∈ oj.after, Region.binds md e = true → listed.getD e.on false = true) →
      HoldsL n0 L w → wpAnyG P md ops C n0 kd j Z fuel listed a L → ∃ a', Z a' L ∧ execOp a'.eval oj = execOp a.eval oj ∧ Region.wanted oj (yielded ops a'.tmps) = Region.wanted oj (yielded ops a.tmps) := by
  have hjn : j < ops.size := (Array.getElem?_eq_some_iff.1 hj).1
  intro fuel
  induction fuel with
  | zero => intro listed a L _ _ _ _ _ h; exact ⟨a, h, rfl, rfl⟩
  | succ fuel ih =>
    intro listed a L hsz hd hup hw hL h
    obtain ⟨hne, hall⟩ := h ⟨w, hC', hL⟩
    obtain ⟨i, hi⟩ := List.exists_mem_of_ne_nil _ hne
    obtain ⟨hi1, him⟩ := mem_sready.1 hi
    obtain ⟨hun, o, ho, hwt⟩ := mem_ready.1 hi1
    have hpi := List.all_eq_true.1 hpl i (List.mem_range.2 him)
    simp only [ho, Bool.and_eq_true, Bool.or_eq_true, Bool.not_eq_true'] at hpi
    obtain ⟨hnw, hpi⟩ := hpi
    have hpl2 : plainOp o.op = true ∧ isDet (kd i) = true ∧ o.apart ops oj = true := by
      rcases hpi with hpi | hpi
      · exfalso
        have hl : Listed listed (dmask md oj) := by
          intro b hb
          obtain ⟨e, he, hbi, rfl⟩ := dmask_spec md oj b hb
          exact hw e he hbi
        have := clos_listed hd f _ hl i hpi
        have hin : i < listed.size := by omega
        simp [hin] at this hun
        rw [hun] at this; cases this
      · exact ⟨hpi.1.1, hpi.1.2, hpi.2⟩
    obtain ⟨hp1, hp2, hp3⟩ := hpl2
    obtain ⟨d1, d2, d3⟩ := Oper.apart_spec hp3
    obtain ⟨o', ho', hg⟩ := hall i hi
    rw [ho] at ho'; cases ho'
    have hg := hg ⟨w, hC', hL⟩
    have hselj : ∀ cs b, oj.op ≠ .select cs b := fun cs b => Region.noSelect_spec hsel j oj cs b hj
    have fin : ∀ v, wpAnyG P md ops C n0 kd j Z fuel (listed.setIfInBounds i true) (a.put o.dst v) L → ∃ a', Z a' L ∧ execOp a'.eval oj = execOp a.eval oj ∧ Region.wanted oj (yielded ops a'.tmps) = Region.wanted oj (yielded ops a.tmps) := by
      intro v h'
      obtain ⟨a', h1, h2, h3⟩ := ih (listed.setIfInBounds i true) (a.put o.dst v) L (by simpa using hsz) (hd.step hi1) (fun i' hi' hin' => by rw [getD_set_ne true (by omega)]; exact hup i' hi' hin') (fun e he hb => getD_set_true (hw e he hb)) hL h'
      exact ⟨a', h1, by rw [h2, execOp_put (ops := ops) oj hselj a o.dst v d1], by rw [h3, wanted_put oj a o.dst v d1]⟩
    split at hg
    · obtain ⟨S, hS, hk⟩ := hg
      cases hkd : kd i with
      | new => rw [hkd] at hp2; cases hp2
      | mem φ => rw [hkd] at hp2; cases hp2
      | det =>
        rw [hkd] at hS
        obtain ⟨v, hv, hSv⟩ := hS
        exact fin v (by simpa [tagL] using hk v [] ((hSv v []).2 rfl))
    · exact fin undef hg

theorem wpAny_bar {f j r : Nat} {oj : Oper} {Z : ZK} {Q : Exit → Act → World → Prop} (hj : ops[j]? = some oj) (hB1 : barB md ops f (j + 1) = true) (hsel : Region.noSelect ops = true) (hdep : oj.after.all (fun e => !Region.binds md e || decide (e.on < j)) = true)
    (hpl : barPlain md ops f j oj kd = true) (hC : ∀ w w', C w → Keep [] w w' → C w') (hn : ∀ w, C w → n0 ≤ w.heap.size) (hCP : ∀ w w', CP w → Keep [] w w' → CP w') (hCPC : ∀ w, CP w → C w) (hnd : ∀ d, oj.op ≠ .defer d)
    (hZ : ∀ a L w, CP w → HoldsL n0 L w → Z a L → wpOpIn (FR ro) 0 P ops Q j (wpAnyIn (FR ro) 0 P md ops Q r (lk ops.size (j + 1))) a w) (hZ2 : ∀ a L w, CP w → HoldsL n0 L w → Z a L → BarOk P ops C n0 oj a w L) :
    ∀ (fuel : Nat) (listed : Array Bool) (a : Act) (L : TNews) (w : World), listed.size = ops.size → Dn md ops listed → (∀ i, j ≤ i → i < ops.size → listed.getD i true = false) →
      Few j listed fuel → CP w → HoldsL n0 L w → wpAnyG P md ops C n0 kd j Z fuel listed a L → wpAnyIn (FR ro) 0 P md ops Q (fuel + (r + 1)) listed a w := by
  have hjn : j < ops.size := (Array.getElem?_eq_some_iff.1 hj).1
  have late : ∀ (listed : Array Bool) (i : Nat), listed.size = ops.size → Dn md ops listed → (∀ i, j ≤ i → i < ops.size → listed.getD i true = false) → i ∈ Region.ready md ops listed → i ≤ j := by
    intro listed i hsz hd hup hi
    rcases Nat.lt_or_ge i (j + 1) with h' | h'
    · omega
    · have h1 := barB_spec hB1 hsz hd (fun i' hi' hin' => hup i' (by omega) hin') hi h' j (by omega)
      have h2 := hup j (Nat.le_refl _) hjn
      have : j < listed.size := by omega
      simp [this] at h1 h2
      rw [h1] at h2; cases h2
  intro fuel
  induction fuel with
  | zero =>
    intro listed a L w hsz hd hup hfew hCw hL h
    have hlk : listed = lk ops.size j := by
      apply Array.ext
      · rw [hsz, lk_size]
      · intro i h1 h2
        have hin : i < ops.size := by rw [← hsz]; exact h1
        have e2 : (lk ops.size j)[i] = decide (i < j) := by simp [lk]
        rw [e2]
        rcases Nat.lt_or_ge i j with hi | hi
        · have := hfew [i]
          simp only [List.nodup_cons, List.not_mem_nil, not_false_eq_true, List.nodup_nil, and_self, List.mem_cons, or_false, forall_eq, List.length_cons, List.length_nil, Nat.zero_add, Nat.le_zero_eq, Nat.one_ne_zero, imp_false, true_implies, not_and] at this
          have := this hi
          have e3 : listed.getD i true = listed[i] := by simp [h1]
          rw [e3] at this
          simp [hi]
          simpa using this
        · have := hup i hi hin
          have e3 : listed.getD i true = listed[i] := by simp [h1]
          rw [e3] at this
          rw [this]
          simp; omega
    have hjr : j ∈ Region.ready md ops listed := by
      refine mem_ready.2 ⟨hup j (Nat.le_refl _) hjn, oj, hj, fun e he hb => ?_⟩
      have := Array.all_eq_true_iff_forall_mem.1 hdep e he
      simp only [hb, Bool.not_true, Bool.false_or, decide_eq_true_eq] at this
      rw [hlk, lk_get false (by omega)]
      simpa using this
    rw [Nat.zero_add]
    refine ⟨fun h0 => (by rw [h0] at hjr; cases hjr), fun i hi => ?_⟩
    have hle := late listed i hsz hd hup hi
    have hij : i = j := by
      rcases Nat.lt_or_ge i j with h' | h'
      · exfalso
        have := (mem_ready.1 hi).1
        rw [hlk, lk_get true (by omega)] at this
        simp at this; omega
      · omega
    subst hij
    rw [hlk, lk_step]
    exact hZ a L w hCw hL h
  | succ fuel ih =>
    intro listed a L w hsz hd hup hfew hCw hL h
    have hG := h
    obtain ⟨hne, hall⟩ := h ⟨w, hCPC w hCw, hL⟩
    have harr : fuel + 1 + (r + 1) = (fuel + (r + 1)) + 1 := by omega
    rw [harr]
    refine ⟨fun h0 => ?_, fun i hi => ?_⟩
    · exfalso; apply hne; unfold sready; rw [h0]; rfl
    · have hle := late listed i hsz hd hup hi
      rcases Nat.lt_or_ge i j with him | hge
      · obtain ⟨o, ho, hg⟩ := hall i (mem_sready.2 ⟨hi, him⟩)
        have hiun := (mem_ready.1 hi).1
        have next : ∀ a' L' w', CP w' → HoldsL n0 L' w' → wpAnyG P md ops C n0 kd j Z fuel (listed.setIfInBounds i true) a' L' → wpAnyIn (FR ro) 0 P md ops Q (fuel + (r + 1)) (listed.setIfInBounds i true) a' w' := by
          intro a' L' w' hC' hL' h'
          refine ih _ a' L' w' (by simpa using hsz) (hd.step hi) (fun i' hi' hin' => ?_) (hfew.step him hiun) hC' hL' h'
          rw [getD_set_ne true (by omega)]; exact hup i' hi' hin'
        have hg := hg ⟨w, hCPC w hCw, hL⟩
        unfold wpOpIn
        simp only [ho]
        split
        · rename_i hw
          simp only [hw, if_true] at hg
          refine ⟨fun _ _ => trivial, ?_⟩
          obtain ⟨S, hS, hk⟩ := hg
          have hcl : CL ops C n0 o L w := CL_of (hCPC w hCw) hL
          cases hkd : kd i with
          | det =>
            rw [hkd] at hS
            obtain ⟨v, hv, hSv⟩ := hS
            have := hv w hcl
            have hK := hk v [] ((hSv v []).2 rfl)
            rw [semAt_run this.not]
            generalize (execOp a.eval o).run P w = res at *
            cases res with
            | halt x w' => simp only [detUpon] at this
            | ok nx w' =>
              cases nx <;> simp only [detUpon] at this <;> simp only [Oper.uponIn]
              case value u => obtain ⟨rfl, rfl⟩ := this; exact next _ _ _ hCw hL hK
              case skip => obtain ⟨rfl, rfl⟩ := this; exact next _ _ _ hCw hL hK
              case enter f args =>
                obtain ⟨rfl, _, hc⟩ := this
                exact ⟨FR_dep, calls_FR (hc.mono fun e w'' ⟨he, hkp⟩ => by subst he; exact next _ _ _ (hCP _ _ hCw hkp) (hL.keep hkp) hK)⟩
          | new =>
            rw [hkd] at hS
            obtain ⟨v, w', hr, hkp, hSv⟩ := hS w hcl
            rw [semAt_run (by rw [hr]; trivial), hr]
            exact next _ _ _ (hCP w w' hCw hkp) (hL.add _ (hn w (hCPC w hCw)) hkp) (hk _ _ hSv)
          | mem φ =>
            rw [hkd] at hS
            obtain ⟨hS1, hS2⟩ := hS
            have := hS2 w hcl
            rw [semAt_run this.not]
            generalize (execOp a.eval o).run P w = res at *
            cases res with
            | halt x w' => simp only [memUpon] at this
            | ok nx w' =>
              cases nx <;> simp only [memUpon] at this <;> simp only [Oper.uponIn]
              case value u => exact next _ _ _ (hCP w w' hCw this.1) (hL.add _ (hn w (hCPC w hCw)) this.1) (hk _ _ ((hS1 _ _).2 this.2))
              case enter f args =>
                obtain ⟨rfl, hc⟩ := this
                exact ⟨FR_dep, calls_FR (hc.mono fun e w'' ⟨v, he, hkp, hφ⟩ => by subst he; exact next _ _ _ (hCP _ _ hCw hkp) (hL.add _ (hn _ (hCPC _ hCw)) hkp) (hk _ _ ((hS1 _ _).2 hφ)))⟩
        · rename_i hw
          simp only [hw] at hg
          exact ⟨fun _ _ => trivial, next _ _ _ hCw hL hg⟩
      · have hij : i = j := by omega
        subst hij
        have hw : ∀ e ∈ oj.after, Region.binds md e = true → listed.getD e.on false = true := fun e he hb => by
          obtain ⟨_, o', ho', hall'⟩ := mem_ready.1 hi
          rw [hj] at ho'; cases ho'
          exact hall' e he hb
        obtain ⟨a', g1, g2, g3⟩ := after_run hsel hj hpl (hCPC w hCw) (fuel + 1) listed a L hsz hd hup hw hL hG
        obtain ⟨b1, nx, v, w', b2, b3, b4, b5⟩ := hZ2 a' L w hCw hL g1
        rw [g2] at b2
        rw [g3] at b1
        have key := wpAny_after (ro := ro) (r := r) (Q := Q) (vj := v) (wp := w) (w' := w') (nxj := nx) hj hB1 hsel hpl b4 b3 (fun a1 L1 hL1 hL1' hz hrun hwant => ?_) (fuel + 1) listed a L hsz hd hup hw hfew hL b5 b2 b1 hG
        · unfold wpOpIn
          simp only [hj, b1, if_true]
          refine ⟨fun _ _ => trivial, ?_⟩
          rw [Oper.semAt_eq _ _ _ hnd, b2]
          have ef : fuel + (r + 1) = fuel + 1 + r := by omega
          rw [ef]
          rcases b3 with rfl | ⟨rfl, rfl⟩
          · exact key
          · exact key
        · have h1 := hZ a1 L1 w hCw hL1 hz
          unfold wpOpIn at h1
          simp only [hj, hwant, if_true] at h1
          have h1 := h1.2
          rw [Oper.semAt_eq _ _ _ hnd, hrun] at h1
          rcases b3 with rfl | ⟨rfl, rfl⟩
          · exact h1
          · exact h1
end

section
variable {c : Cx} {env : Env} {F : Know} {own : Own} {Q : Exit → Act → World → Prop}

def barjB (ops : Array Oper) (kd : Nat → Kind) (f k j : Nat) (l : List Nat) : Bool :=
  decide (k ≤ j) && decide (j < ops.size) && (l.length == j - k) && Region.noSelect ops && dnB .any ops k && barB .any ops f (j + 1) && lexG .any ops j l (lk ops.size k) &&
    match ops[j]? with
    | some oj => (match oj.op with | .defer _ => false | _ => true) && oj.after.all (fun e => !Region.binds .any e || decide (e.on < j)) && barPlain .any ops f j oj kd
    | none => false

/-- What a barrier leaves, as to what is not its own. -/
def Bar (c : Cx) (ops : Array Oper) (j : Nat) (env : Env) (F : Know) (V : List Nat) (own own' : Own) : Prop :=
  ∀ a w oj, ops[j]? = some oj → Hd c env F own a w → Region.wanted oj (yielded ops a.tmps) = true ∧ ∃ nx v w', (execOp a.eval oj).run c.P w = .ok nx w' ∧ ((nx = .value v) ∨ (nx = .skip ∧ v = undef)) ∧ Sat c F own' w' ∧ Keep V w w'

/-- The operations from k up to j, where operation j, which is no call, may come up ahead of some of them. own': what these may look at; news: nothing is made by them. -/
theorem r_bar {ops : Array Oper} {k : Nat} (f j : Nat) (ns : List Nat) (l : List Nat) (own' : Own) (hB : barjB ops (kindOf ns []) f k j l = true) (hs' : own'.Sublist own)
    (h : SG c ops F own' (kindOf ns []) (fun env' N' => R c true ops Q j env' F (ownsI N' ++ own) ∧ Bar c ops j env' F (idsO own) (ownsI N' ++ own) (ownsI N' ++ own')) l env []) : R c true ops Q k env F own := by
  simp only [barjB, Bool.and_eq_true, decide_eq_true_eq, beq_iff_eq] at hB
  obtain ⟨⟨⟨⟨⟨⟨⟨hkj, hjn⟩, hlen⟩, hsel⟩, hdn⟩, hbar⟩, hlex⟩, hrest⟩ := hB
  obtain ⟨oj, hoj⟩ : ∃ oj, ops[j]? = some oj := ⟨ops[j], by rw [Array.getElem?_eq_getElem hjn]⟩
  simp only [hoj, Bool.and_eq_true] at hrest
  obtain ⟨⟨hnd, hdep⟩, hpl⟩ := hrest
  have hnd' : ∀ d, oj.op ≠ .defer d := by
    intro d hd; rw [hd] at hnd; cases hnd
  intro a w hd
  have e1 : ops.size - k = (j - k) + ((ops.size - (j + 1)) + 1) := by omega
  simp only [RestOf]
  rw [e1]
  have hsd := hd.sat.sub hs'
  have hC : ∀ w1 w2, CW c F own' w.heap.size w1 → Keep [] w1 w2 → CW c F own' w.heap.size w2 := fun w1 w2 h1 hk => ⟨h1.1.keep' hk, Nat.le_trans h1.2 hk.size⟩
  have hn : ∀ w1, CW c F own' w.heap.size w1 → w.heap.size ≤ w1.heap.size := fun w1 h1 => h1.2
  have fin : ∀ a1 L1 w1, CW c F own w.heap.size w1 → HoldsL w.heap.size L1 w1 → Zfin c F own' w.heap.size (fun env' N' => R c true ops Q j env' F (ownsI N' ++ own) ∧ Bar c ops j env' F (idsO own) (ownsI N' ++ own) (ownsI N' ++ own')) a1 L1 →
      ∃ env' N' L2, SubP L2 L1 ∧ Real F N' L2 ∧ Hd c env' F (ownsI N' ++ own) a1 w1 ∧ R c true ops Q j env' F (ownsI N' ++ own) ∧ Bar c ops j env' F (idsO own) (ownsI N' ++ own) (ownsI N' ++ own') := by
    intro a1 L1 w1 h1 hL hz
    obtain ⟨env', N', L2, g1, g2, g3, g4, g5⟩ := hz ⟨w1, ⟨h1.1.sub hs', h1.2⟩, hL⟩
    refine ⟨env', N', L2, g1, g2, ⟨g3, join_real h1.1 hd.sat.ownlt hd.sat.knowlt hd.sat.keep.size (hL.sub g1) g2⟩, g4, g5⟩
  refine wpAny_bar (kd := kindOf ns []) (n0 := w.heap.size) (C := CW c F own' w.heap.size) (CP := CW c F own w.heap.size) hoj hbar hsel hdep hpl hC hn (fun w1 w2 h1 hk => ⟨h1.1.keep' hk, Nat.le_trans h1.2 hk.size⟩) (fun w1 h1 => ⟨h1.1.sub hs', h1.2⟩) hnd'
    (Z := Zfin c F own' w.heap.size (fun env' N' => R c true ops Q j env' F (ownsI N' ++ own) ∧ Bar c ops j env' F (idsO own) (ownsI N' ++ own) (ownsI N' ++ own'))) ?_ ?_ (j - k) (lk ops.size k) a [] w (lk_size _ _) (dnB_spec hdn) (fun i hi hin => ?_) (few_lk (by omega)) ⟨hd.sat, Nat.le_refl _⟩ (HoldsL.nil _ _) ?_
  · intro a1 L1 w1 h1 hL hz
    obtain ⟨env', N', L2, _, _, g3, g4, _⟩ := fin a1 L1 w1 h1 hL hz
    have := g4 a1 w1 g3
    simp only [RestOf] at this
    have e2 : ops.size - j = (ops.size - (j + 1)) + 1 := by omega
    rw [e2] at this
    have hr : j ∈ Region.ready .any ops (lk ops.size j) := by
      refine mem_ready.2 ⟨by rw [lk_get true hjn]; simp, oj, hoj, fun e he hb => ?_⟩
      have := Array.all_eq_true_iff_forall_mem.1 hdep e he
      simp only [hb, Bool.not_true, Bool.false_or, decide_eq_true_eq] at this
      rw [lk_get false (by omega)]
      simpa using this
    have := this.2 j hr
    rwa [lk_step] at this
  · intro a1 L1 w1 h1 hL hz
    obtain ⟨env', N', L2, g1, g2, g3, _, g5⟩ := fin a1 L1 w1 h1 hL hz
    obtain ⟨k1, nx, v, w', k2, k3, k4, k5⟩ := g5 a1 w1 oj hoj g3
    refine ⟨k1, nx, v, w', k2, k3, ⟨k4.sub (List.sublist_append_right _ _), Nat.le_trans h1.2 k5.size⟩, hL.nodup, fun x hx => ⟨(hL.at_ x hx).1, ?_⟩⟩
    refine k5.block (hL.at_ x hx).2 fun hm => ?_
    obtain ⟨y, hy, e⟩ := List.mem_map.1 hm
    have := hd.sat.ownlt y hy
    have := (hL.at_ x hx).1
    omega
  · rw [lk_get true hin]; simp; omega
  · rw [← hlen]
    exact wpAnyG_lex hC hn Zfin_inv hsel l _ a [] (by rw [hlen]; exact few_lk (by omega)) hlex (h (lexG_in l _ hlex) w.heap.size a [] (fun x hx => hd.sat.ownlt x (hs'.subset hx)) hd.env .nil)

variable {ty : TypeId} {ps : String} {af : Array Edge} {g : Option (Nat × Bool)} {l : List Oper} {k : Nat} {V : List Nat} {own' : Own}

theorem keep_setBlk {w : World} {p : Nat} {ob : Obj} (hp : p ∈ V) : Keep V w (setBlk w p ob) :=
  ⟨rfl, rfl, rfl, by simp [setBlk], fun b hb hs => by
    have hne : b ≠ p := fun e => hs (e ▸ hp)
    simp only [setBlk]; rw [Array.getElem?_setIfInBounds_ne (Ne.symm hne)]⟩

theorem bar_st1 {t : TypeId} {x y : Operand} {A : Addr} {p j : Nat} {cs cs' : List Value} {T : TypeId} {v : Value} {own2 : Own} (ho : nthO l k = some ⟨none, .store t x y, ty, ps, af, g⟩) (ht : TOne c.P t) (hx : Env.ev env x = some (.pointer (some A))) (hA : A = ⟨p, j, none⟩) (hy : Env.ev env y = some v)
    (hu : Upd p (.cells cs.toArray T (0, 0)) (.cells cs'.toArray T (0, 0)) own own2) (hs : setV j [v] cs some = some cs')
    (hw : wantedB l.toArray env ⟨none, .store t x y, ty, ps, af, g⟩) (hv : oneCell v = true) (hp : p ∈ V) (hsub : own'.Sublist own2) : Bar c l.toArray k env F V own own' := by
  intro a w oj hoj hh
  rw [← nthO_eq, ho] at hoj
  cases hoj
  subst hA
  obtain ⟨h1, h2⟩ := setV_some hs
  simp only [Option.some.injEq] at h2
  refine ⟨wanted_of hh.env hw, .skip, undef, setBlk w p (.cells cs'.toArray T (0, 0)), ?_, .inr ⟨rfl, rfl⟩, (hh.sat.upd hu).sub hsub, keep_setBlk hp⟩
  have hc : v.cells = [v].toArray := by cases v <;> simp [oneCell] at hv <;> rfl
  have hr := run_storeAt (P := c.P) (w := w) (t := t) (n := 1) (k := j) ht.size hc rfl (hh.sat.own _ hu.mem) h1 (by simp [hv])
  rw [h2] at hr
  simp only [execOp, hh.env.eval hx, hh.env.eval hy, Sem.run_bind, hr, Result.andThen_ok, Sem.run_pure]

theorem bar_stN {t : TypeId} {n : Nat} {x y : Operand} {A : Addr} {p j : Nat} {vs cs cs' : List Value} {T : TypeId} {own2 : Own} (ho : nthO l k = some ⟨none, .store t x y, ty, ps, af, g⟩) (ht : TAgg c.P t n) (hx : Env.ev env x = some (.pointer (some A))) (hA : A = ⟨p, j, none⟩) (hy : Env.ev env y = some (.agg vs.toArray))
    (hu : Upd p (.cells cs.toArray T (0, 0)) (.cells cs'.toArray T (0, 0)) own own2) (hs : setV j vs cs some = some cs')
    (hw : wantedB l.toArray env ⟨none, .store t x y, ty, ps, af, g⟩) (hn : vs.length = n) (hv : vs.all oneCell = true) (hp : p ∈ V) (hsub : own'.Sublist own2) : Bar c l.toArray k env F V own own' := by
  intro a w oj hoj hh
  rw [← nthO_eq, ho] at hoj
  cases hoj
  subst hA
  obtain ⟨h1, h2⟩ := setV_some hs
  simp only [Option.some.injEq] at h2
  refine ⟨wanted_of hh.env hw, .skip, undef, setBlk w p (.cells cs'.toArray T (0, 0)), ?_, .inr ⟨rfl, rfl⟩, (hh.sat.upd hu).sub hsub, keep_setBlk hp⟩
  have hr := run_storeAt (P := c.P) (w := w) (t := t) (n := n) (k := j) ht.size (v := .agg vs.toArray) rfl hn (hh.sat.own _ hu.mem) h1 hv
  rw [h2] at hr
  simp only [execOp, hh.env.eval hx, hh.env.eval hy, Sem.run_bind, hr, Result.andThen_ok, Sem.run_pure]

/-- An append to a slice of one's own whose block stands last. -/
theorem bar_app {s x : Operand} {T e : TypeId} {size bytes : Nat} {pre b : Own} {v : Value} {n : Nat} {xs : List Value} {A : Option Addr} {m cp : Nat} {news : List Value} {t : Tmp}
    (ho : nthO l k = some ⟨some t, .call { callee := .builtin .append, args := #[s, x], argTypes := #[T, T] }, ty, ps, af, g⟩) (hT : AppT c.P T e size bytes) (hv : Env.ev env s = some v) (hx : Env.ev env x = some (.slice A m cp))
    (hw : wantedB l.toArray env ⟨some t, .call { callee := .builtin .append, args := #[s, x], argTypes := #[T, T] }, ty, ps, af, g⟩)
    (hS : SlO e size v n xs b) (hl : news.length = m * size) (hnews : ∀ w, Sat c F (pre ++ b) w → ∀ j u, news[j]? = some u → ∃ a, A = some a ∧ w.cell? (a.add j) = some u) (h1 : ∀ u ∈ news, u.oneCell' = true)
    (hm : (n + m) * bytes ≤ 140737488355328) (hm2 : n + m ≤ maxLen) (hV : ∀ i ∈ idsO b, i ∈ V) (hsub : own'.Sublist pre) : Bar c l.toArray k env F V (pre ++ b) own' := by
  intro a w oj hoj hh
  rw [← nthO_eq, ho] at hoj
  cases hoj
  have hs0 : Sat c F (pre ++ (b ++ [])) w := by simpa using hh.sat
  obtain ⟨v', w', b', hr, h2, h3⟩ := run_append_sl hT hS hl hs0 (hnews w hh.sat) h1 hm hm2 ty
  have hs1 : Sat ⟨c.P, c.n, w, idsO b, c.ro, c.df⟩ noK ([] ++ (b ++ [])) w := by
    refine ⟨Keep.refl _ _, fun _ _ h => (by cases h), fun _ _ h => (by cases h), ?_, fun x hx => .inr ?_, fun x hx => ?_⟩
    · have := hh.sat.nodup
      rw [List.map_append, List.nodup_append] at this
      simpa using this.2.1
    · simp only [List.nil_append, List.append_nil] at hx
      exact List.mem_map_of_mem hx
    · simp only [List.nil_append, List.append_nil] at hx
      exact hh.sat.own x (List.mem_append_right _ hx)
  obtain ⟨v2, w2, b2, hr2, _, h4⟩ := run_append_sl (c := ⟨c.P, c.n, w, idsO b, c.ro, c.df⟩) hT hS hl hs1 (hnews w hh.sat) h1 hm hm2 ty
  rw [hr] at hr2
  injection hr2 with e1 e2
  subst e1; subst e2
  refine ⟨wanted_of hh.env hw, .value v', v', w', ?_, .inl rfl, h3.sub (hsub.trans (List.sublist_append_left _ _)), h4.keep.mono hV⟩
  unfold execOp
  simp only [resolve, invoke, builtin, Sem.run_bind, Sem.run_pure, Result.andThen_ok, List.map_toArray, List.map_cons, List.map_nil, hh.env.eval hv, hh.env.eval hx]
  rw [hr]
  rfl
end
end Go.Eng
