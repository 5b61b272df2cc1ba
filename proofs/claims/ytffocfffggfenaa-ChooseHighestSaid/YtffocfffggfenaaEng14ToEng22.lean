/-
  The texts Eng14 to Eng22, one after the other.
-/
import Derived.Test.YtffocfffggfenaaEng11ToEng6
/-
  The engine, part 14: a barrier that may come up ahead of operations that it is unordered with.
-/
namespace Go.Eng
open Go

/-- Operations that hand back a value and enter nothing. -/
def plainOp : Op → Bool
  | .move _ | .assign _ | .pick .. | .load .. | .nilCheck _ | .binOp .. | .unOp .. | .convert .. | .slice .. | .fieldAddr .. | .field .. | .indexAddr .. | .index .. | .extract .. => true
  | _ => false

theorem run_value {P : Program} {w w' : World} {s : Sem Value} {nx : Next} (h : (do let x ← s; pure (Next.value x) : Sem Next).run P w = .ok nx w') : ∃ v, nx = .value v := by
  simp only [Sem.run_bind] at h
  generalize s.run P w = r at h
  cases r with
  | ok v w1 => simp only [Result.andThen_ok, Sem.run_pure] at h; injection h with h1 h2; exact ⟨v, h1.symm⟩
  | halt x w1 => simp [Result.andThen] at h

theorem plain_value {P : Program} {w w' : World} {ρ : Operand → Value} {o : Oper} {nx : Next} (hp : plainOp o.op = true) (h : (execOp ρ o).run P w = .ok nx w') : ∃ v, nx = .value v := by
  unfold execOp at h
  cases ho : o.op <;> rw [ho] at hp h <;> simp only [plainOp, Bool.false_eq_true] at hp <;> dsimp only at h
  case move x => simp only [Sem.run_pure] at h; injection h with h1 h2; exact ⟨_, h1.symm⟩
  case assign x => simp only [Sem.run_pure] at h; injection h with h1 h2; exact ⟨_, h1.symm⟩
  case pick c a b =>
    simp only [Sem.run_bind] at h
    generalize (asBool (ρ c)).run P w = r at h
    cases r with
    | ok v w1 => simp only [Result.andThen_ok, Sem.run_pure] at h; injection h with h1 h2; exact ⟨_, h1.symm⟩
    | halt x w1 => simp [Result.andThen] at h
  case nilCheck x =>
    split at h
    · simp [runtimePanic] at h
    · simp [runtimePanic] at h
    · simp [runtimePanic] at h
    · split at h
      · simp [runtimePanic] at h
      · simp only [Sem.run_bind] at h
        generalize Sem.run P program _ = r at h
        cases r with
        | halt x w1 => simp [Result.andThen] at h
        | ok p w1 =>
          simp only [Result.andThen_ok] at h
          generalize Sem.run P (nilAhead _ _ _ _) _ = r2 at h
          cases r2 with
          | halt x w1 => simp [Result.andThen] at h
          | ok b w2 =>
            simp only [Result.andThen_ok] at h
            split at h
            · simp only [Sem.run_bind, unsupported, Sem.run_halt] at h
              simp [Result.andThen] at h
            · simp only [Sem.run_pure] at h; injection h with h1 h2; exact ⟨_, h1.symm⟩
      · simp only [Sem.run_pure] at h; injection h with h1 h2; exact ⟨_, h1.symm⟩
    · simp only [Sem.run_pure] at h; injection h with h1 h2; exact ⟨_, h1.symm⟩
  all_goals exact run_value h

section
variable {P : Program} {ops : Array Oper} {md : Region.Mode} {C CP : World → Prop} {n0 : Nat} {kd : Nat → Kind} {ro : Option Nat}

def isDet : Kind → Bool
  | .det => true
  | _ => false

/-- The barrier: neither a call nor a defer; it goes through, and the class is kept. -/
def BarOk (P : Program) (ops : Array Oper) (C : World → Prop) (n0 : Nat) (oj : Oper) (a : Act) (w : World) (L : TNews) : Prop :=
  Region.wanted oj (yielded ops a.tmps) = true ∧ ∃ nx v w', (execOp a.eval oj).run P w = .ok nx w' ∧ ((nx = .value v) ∨ (nx = .skip ∧ v = undef)) ∧ C w' ∧ HoldsL n0 L w'

/-- What is not ahead of the barrier is plain, apart from it, and does not wait for it. -/
def barPlain (md : Region.Mode) (ops : Array Oper) (f j : Nat) (oj : Oper) (kd : Nat → Kind) : Bool :=
  let S := clos md ops f (dmask md oj)
  (List.range j).all fun i => match ops[i]? with
    | none => false
    | some oi => !(oi.after.any fun e => Region.binds md e && e.on == j) && (S.testBit i || (plainOp oi.op && isDet (kd i) && oi.apart ops oj))

theorem wpAny_after {f j r : Nat} {oj : Oper} {Z : ZK} {Q : Exit → Act → World → Prop} {vj : Value} {wp w' : World} {nxj : Next} (hj : ops[j]? = some oj) (hB1 : barB md ops f (j + 1) = true) (hsel : Region.noSelect ops = true)
    (hpl : barPlain md ops f j oj kd = true) (hC' : C w') (hrun' : (nxj = .value vj) ∨ (nxj = .skip ∧ vj = undef))
    (hZ : ∀ a L, HoldsL n0 L wp → HoldsL n0 L w' → Z a L → (execOp a.eval oj).run P wp = .ok nxj w' → Region.wanted oj (yielded ops a.tmps) = true → wpAnyIn (FR ro) 0 P md ops Q r (lk ops.size (j + 1)) (a.put oj.dst vj) w') :
    ∀ (fuel : Nat) (listed : Array Bool) (a : Act) (L : TNews), listed.size = ops.size → Dn md ops listed → (∀ i, j ≤ i → i < ops.size → listed.getD i true = false) → (∀ e ∈ oj.after, Region.binds md e = true → listed.getD e.on false = true) →
      Few j listed fuel → HoldsL n0 L wp → HoldsL n0 L w' → (execOp a.eval oj).run P wp = .ok nxj w' → Region.wanted oj (yielded ops a.tmps) = true → wpAnyG P md ops C n0 kd j Z fuel listed a L →
      wpAnyIn (FR ro) 0 P md ops Q (fuel + r) (listed.setIfInBounds j true) (a.put oj.dst vj) w' := by
  have hjn : j < ops.size := (Array.getElem?_eq_some_iff.1 hj).1
  intro fuel
  induction fuel with
  | zero =>
    intro listed a L hsz hd hup hw hfew hL hL' hrun hwant h
    have : listed.setIfInBounds j true = lk ops.size (j + 1) := by
      rw [← lk_step]
      congr 1
      apply Array.ext
      · rw [hsz, lk_size]
      · intro i h1 h2
        have hin : i < ops.size := by rw [← hsz]; exact h1
        have e2 : (lk ops.size j)[i] = decide (i < j) := by simp [lk]
        rw [e2]
        rcases Nat.lt_or_ge i j with hi | hi
        · have := hfew [i]
          simp only [List.nodup_cons, List.not_mem_nil, not_false_eq_true, List.nodup_nil, and_self, List.mem_cons, or_false, forall_eq, List.length_cons, List.length_nil, Nat.zero_add, Nat.le_zero_eq, Nat.one_ne_zero, imp_false, true_implies, not_and] at this
          have := this hi
          have e3 : listed.getD i true = listed[i] := by simp [h1]
          rw [e3] at this
          simp [hi]
          simpa using this
        · have := hup i hi hin
          have e3 : listed.getD i true = listed[i] := by simp [h1]
          rw [e3] at this
          rw [this]
          simp; omega
    rw [this]
    have := hZ a L hL hL' h hrun hwant
    simpa using this
  | succ fuel ih =>
    intro listed a L hsz hd hup hw hfew hL hL' hrun hwant h
    obtain ⟨hne, hall⟩ := h ⟨w', hC', hL'⟩
    have hjr : j ∈ Region.ready md ops listed := mem_ready.2 ⟨hup j (Nat.le_refl _) hjn, oj, hj, hw⟩
    have hd2 : Dn md ops (listed.setIfInBounds j true) := hd.step hjr
    have hjl : (listed.setIfInBounds j true).getD j false = true := by have : j < listed.size := by omega
                                                                       simp [this]
    -- an operation below j has not come up yet
    obtain ⟨x, hx⟩ := List.exists_mem_of_ne_nil _ hne
    obtain ⟨hx1, hxj⟩ := mem_sready.1 hx
    have hnf : ¬ ∀ i, i < j + 1 → (listed.setIfInBounds j true).getD i false = true := by
      intro hf
      have h0 := (mem_ready.1 hx1).1
      have h1 := hf x (by omega)
      rw [getD_set_ne false (by omega)] at h1
      have hxn : x < listed.size := by omega
      simp [hxn] at h0 h1
      rw [h0] at h1; cases h1
    have harr : fuel + 1 + r = (fuel + r) + 1 := by omega
    rw [harr]
    refine ⟨fun h0 => ?_, fun i hi => ?_⟩
    · exfalso
      have := ready_mono (i := j) hx1 (by omega)
      rw [h0] at this; cases this
    · have hi0 := mem_ready.1 hi
      have hij : i ≠ j := by
        rintro rfl
        have := hi0.1
        rw [getD_set_self] at this; cases this
      have him : i < j := by
        rcases Nat.lt_or_ge i (j + 1) with h' | h'
        · omega
        · refine (hnf (barB_spec hB1 (by simpa using hsz) hd2 (fun i' hi' hin' => ?_) hi h')).elim
          rw [getD_set_ne true (by omega)]; exact hup i' (by omega) hin'
      obtain ⟨hun, o, ho, hwt⟩ := hi0
      rw [getD_set_ne true (Ne.symm hij)] at hun
      have hpi := List.all_eq_true.1 hpl i (List.mem_range.2 him)
      simp only [ho, Bool.and_eq_true, Bool.or_eq_true, Bool.not_eq_true'] at hpi
      obtain ⟨hnw, hpi⟩ := hpi
      have hirl : i ∈ Region.ready md ops listed := by
        refine mem_ready.2 ⟨hun, o, ho, fun e he hb => ?_⟩
        have := hwt e he hb
        have hne' : j ≠ e.on := by
          intro e'
          have h1 : (o.after.any fun e => Region.binds md e && e.on == j) = true := Array.any_eq_true'.2 ⟨e, he, by simp [hb, e']⟩
          rw [hnw] at h1; cases h1
        rwa [getD_set_ne false hne'] at this
      have hpl2 : plainOp o.op = true ∧ isDet (kd i) = true ∧ o.apart ops oj = true := by
        rcases hpi with hpi | hpi
        · exfalso
          have hl : Listed listed (dmask md oj) := by
            intro b hb
            obtain ⟨e, he, hbi, rfl⟩ := dmask_spec md oj b hb
            exact hw e he hbi
          have := clos_listed hd f _ hl i hpi
          have hin : i < listed.size := by omega
          simp [hin] at this hun
          rw [hun] at this; cases this
        · exact ⟨hpi.1.1, hpi.1.2, hpi.2⟩
      obtain ⟨hp1, hp2, hp3⟩ := hpl2
      obtain ⟨d1, d2, d3⟩ := Oper.apart_spec hp3
      obtain ⟨o', ho', hg⟩ := hall i (mem_sready.2 ⟨hirl, him⟩)
      rw [ho] at ho'; cases ho'
      have hg := hg ⟨w', hC', hL'⟩
      have hselo : ∀ cs b, o.op ≠ .select cs b := fun cs b => Region.noSelect_spec hsel i o cs b ho
      have hselj : ∀ cs b, oj.op ≠ .select cs b := fun cs b => Region.noSelect_spec hsel j oj cs b hj
      have next : ∀ (v : Value) (L2 : TNews), HoldsL n0 L2 wp → HoldsL n0 L2 w' → wpAnyG P md ops C n0 kd j Z fuel (listed.setIfInBounds i true) (a.put o.dst v) L2 → wpAnyIn (FR ro) 0 P md ops Q (fuel + r) ((listed.setIfInBounds j true).setIfInBounds i true) ((a.put oj.dst vj).put o.dst v) w' := by
        intro v L2 hL2 hL2' h'
        rw [Array.setIfInBounds_comm _ _ (Ne.symm hij), Act.put_comm a vj v (fun d hd he => d2 d he hd)]
        refine ih _ _ L2 (by simpa using hsz) (hd.step hirl) (fun i' hi' hin' => ?_) (fun e he hb => getD_set_true (hw e he hb)) (hfew.step him hun) hL2 hL2' ?_ ?_ h'
        · rw [getD_set_ne true (by omega)]; exact hup i' hi' hin'
        · rw [execOp_put (ops := ops) oj hselj a o.dst v d1]; exact hrun
        · rw [wanted_put oj a o.dst v d1]; exact hwant
      unfold wpOpIn
      simp only [ho]
      rw [wanted_put o a oj.dst vj d3]
      split
      · rename_i hwn
        simp only [hwn, if_true] at hg
        obtain ⟨S, hS, hk⟩ := hg
        have hcl : CL ops C n0 o L w' := CL_of hC' hL'
        cases hkd : kd i with
        | new => rw [hkd] at hp2; cases hp2
        | mem φ => rw [hkd] at hp2; cases hp2
        | det =>
          rw [hkd] at hS
          obtain ⟨v, hv, hSv⟩ := hS
          have hdu := hv w' hcl
          have hK := hk v [] ((hSv v []).2 rfl)
          have hK' : wpAnyG P md ops C n0 kd j Z fuel (listed.setIfInBounds i true) (a.put o.dst v) L := by simpa [tagL] using hK
          refine ⟨fun _ _ => trivial, ?_⟩
          have e1 : execOp (a.put oj.dst vj).eval o = execOp a.eval o := execOp_put (ops := ops) o hselo a oj.dst vj d3
          rw [semAt_run (by rw [e1]; exact hdu.not), e1]
          have hpv := fun nx w2 (hh : (execOp a.eval o).run P w' = .ok nx w2) => plain_value hp1 hh
          generalize (execOp a.eval o).run P w' = res at *
          cases res with
          | halt x w2 => simp only [detUpon] at hdu
          | ok nx w2 =>
            obtain ⟨u, rfl⟩ := hpv nx w2 rfl
            simp only [detUpon] at hdu
            obtain ⟨rfl, rfl⟩ := hdu
            simp only [Oper.uponIn]
            exact next _ _ hL hL' hK'
      · rename_i hwn
        simp only [hwn, Bool.false_eq_true, if_false] at hg
        exact ⟨fun _ _ => trivial, next _ _ hL hL' hg⟩


/-- What is left, run to its end in one world: the barrier's operands stay as they are. -/
theorem after_run {f j : Nat} {oj : Oper} {Z : ZK} {w : World} (hsel : Region.noSelect ops = true) (hj : ops[j]? = some oj)
    (hpl : barPlain md ops f j oj kd = true) (hC' : C w) :
    ∀ (fuel : Nat) (listed : Array Bool) (a : Act) (L : TNews), listed.size = ops.size → Dn md ops listed → (∀ i, j ≤ i → i < ops.size → listed.getD i true = false) → (∀ e ∈ oj.after, Region.binds md e = true → listed.getD e.on false = true) →
      HoldsL n0 L w → wpAnyG P md ops C n0 kd j Z fuel listed a L → ∃ a', Z a' L ∧ execOp a'.eval oj = execOp a.eval oj ∧ Region.wanted oj (yielded ops a'.tmps) = Region.wanted oj (yielded ops a.tmps) := by
  have hjn : j < ops.size := (Array.getElem?_eq_some_iff.1 hj).1
  intro fuel
  induction fuel with
  | zero => intro listed a L _ _ _ _ _ h; exact ⟨a, h, rfl, rfl⟩
  | succ fuel ih =>
    intro listed a L hsz hd hup hw hL h
    obtain ⟨hne, hall⟩ := h ⟨w, hC', hL⟩
    obtain ⟨i, hi⟩ := List.exists_mem_of_ne_nil _ hne
    obtain ⟨hi1, him⟩ := mem_sready.1 hi
    obtain ⟨hun, o, ho, hwt⟩ := mem_ready.1 hi1
    have hpi := List.all_eq_true.1 hpl i (List.mem_range.2 him)
    simp only [ho, Bool.and_eq_true, Bool.or_eq_true, Bool.not_eq_true'] at hpi
    obtain ⟨hnw, hpi⟩ := hpi
    have hpl2 : plainOp o.op = true ∧ isDet (kd i) = true ∧ o.apart ops oj = true := by
      rcases hpi with hpi | hpi
      · exfalso
        have hl : Listed listed (dmask md oj) := by
          intro b hb
          obtain ⟨e, he, hbi, rfl⟩ := dmask_spec md oj b hb
          exact hw e he hbi
        have := clos_listed hd f _ hl i hpi
        have hin : i < listed.size := by omega
        simp [hin] at this hun
        rw [hun] at this; cases this
      · exact ⟨hpi.1.1, hpi.1.2, hpi.2⟩
    obtain ⟨hp1, hp2, hp3⟩ := hpl2
    obtain ⟨d1, d2, d3⟩ := Oper.apart_spec hp3
    obtain ⟨o', ho', hg⟩ := hall i hi
    rw [ho] at ho'; cases ho'
    have hg := hg ⟨w, hC', hL⟩
    have hselj : ∀ cs b, oj.op ≠ .select cs b := fun cs b => Region.noSelect_spec hsel j oj cs b hj
    have fin : ∀ v, wpAnyG P md ops C n0 kd j Z fuel (listed.setIfInBounds i true) (a.put o.dst v) L → ∃ a', Z a' L ∧ execOp a'.eval oj = execOp a.eval oj ∧ Region.wanted oj (yielded ops a'.tmps) = Region.wanted oj (yielded ops a.tmps) := by
      intro v h'
      obtain ⟨a', h1, h2, h3⟩ := ih (listed.setIfInBounds i true) (a.put o.dst v) L (by simpa using hsz) (hd.step hi1) (fun i' hi' hin' => by rw [getD_set_ne true (by omega)]; exact hup i' hi' hin') (fun e he hb => getD_set_true (hw e he hb)) hL h'
      exact ⟨a', h1, by rw [h2, execOp_put (ops := ops) oj hselj a o.dst v d1], by rw [h3, wanted_put oj a o.dst v d1]⟩
    split at hg
    · obtain ⟨S, hS, hk⟩ := hg
      cases hkd : kd i with
      | new => rw [hkd] at hp2; cases hp2
      | mem φ => rw [hkd] at hp2; cases hp2
      | det =>
        rw [hkd] at hS
        obtain ⟨v, hv, hSv⟩ := hS
        exact fin v (by simpa [tagL] using hk v [] ((hSv v []).2 rfl))
    · exact fin undef hg

theorem wpAny_bar {f j r : Nat} {oj : Oper} {Z : ZK} {Q : Exit → Act → World → Prop} (hj : ops[j]? = some oj) (hB1 : barB md ops f (j + 1) = true) (hsel : Region.noSelect ops = true) (hdep : oj.after.all (fun e => !Region.binds md e || decide (e.on < j)) = true)
    (hpl : barPlain md ops f j oj kd = true) (hC : ∀ w w', C w → Keep [] w w' → C w') (hn : ∀ w, C w → n0 ≤ w.heap.size) (hCP : ∀ w w', CP w → Keep [] w w' → CP w') (hCPC : ∀ w, CP w → C w) (hnd : ∀ d, oj.op ≠ .defer d)
    (hZ : ∀ a L w, CP w → HoldsL n0 L w → Z a L → wpOpIn (FR ro) 0 P ops Q j (wpAnyIn (FR ro) 0 P md ops Q r (lk ops.size (j + 1))) a w) (hZ2 : ∀ a L w, CP w → HoldsL n0 L w → Z a L → BarOk P ops C n0 oj a w L) :
    ∀ (fuel : Nat) (listed : Array Bool) (a : Act) (L : TNews) (w : World), listed.size = ops.size → Dn md ops listed → (∀ i, j ≤ i → i < ops.size → listed.getD i true = false) →
      Few j listed fuel → CP w → HoldsL n0 L w → wpAnyG P md ops C n0 kd j Z fuel listed a L → wpAnyIn (FR ro) 0 P md ops Q (fuel + (r + 1)) listed a w := by
  have hjn : j < ops.size := (Array.getElem?_eq_some_iff.1 hj).1
  have late : ∀ (listed : Array Bool) (i : Nat), listed.size = ops.size → Dn md ops listed → (∀ i, j ≤ i → i < ops.size → listed.getD i true = false) → i ∈ Region.ready md ops listed → i ≤ j := by
    intro listed i hsz hd hup hi
    rcases Nat.lt_or_ge i (j + 1) with h' | h'
    · omega
    · have h1 := barB_spec hB1 hsz hd (fun i' hi' hin' => hup i' (by omega) hin') hi h' j (by omega)
      have h2 := hup j (Nat.le_refl _) hjn
      have : j < listed.size := by omega
      simp [this] at h1 h2
      rw [h1] at h2; cases h2
  intro fuel
  induction fuel with
  | zero =>
    intro listed a L w hsz hd hup hfew hCw hL h
    have hlk : listed = lk ops.size j := by
      apply Array.ext
      · rw [hsz, lk_size]
      · intro i h1 h2
        have hin : i < ops.size := by rw [← hsz]; exact h1
        have e2 : (lk ops.size j)[i] = decide (i < j) := by simp [lk]
        rw [e2]
        rcases Nat.lt_or_ge i j with hi | hi
        · have := hfew [i]
          simp only [List.nodup_cons, List.not_mem_nil, not_false_eq_true, List.nodup_nil, and_self, List.mem_cons, or_false, forall_eq, List.length_cons, List.length_nil, Nat.zero_add, Nat.le_zero_eq, Nat.one_ne_zero, imp_false, true_implies, not_and] at this
          have := this hi
          have e3 : listed.getD i true = listed[i] := by simp [h1]
          rw [e3] at this
          simp [hi]
          simpa using this
        · have := hup i hi hin
          have e3 : listed.getD i true = listed[i] := by simp [h1]
          rw [e3] at this
          rw [this]
          simp; omega
    have hjr : j ∈ Region.ready md ops listed := by
      refine mem_ready.2 ⟨hup j (Nat.le_refl _) hjn, oj, hj, fun e he hb => ?_⟩
      have := Array.all_eq_true_iff_forall_mem.1 hdep e he
      simp only [hb, Bool.not_true, Bool.false_or, decide_eq_true_eq] at this
      rw [hlk, lk_get false (by omega)]
      simpa using this
    rw [Nat.zero_add]
    refine ⟨fun h0 => (by rw [h0] at hjr; cases hjr), fun i hi => ?_⟩
    have hle := late listed i hsz hd hup hi
    have hij : i = j := by
      rcases Nat.lt_or_ge i j with h' | h'
      · exfalso
        have := (mem_ready.1 hi).1
        rw [hlk, lk_get true (by omega)] at this
        simp at this; omega
      · omega
    subst hij
    rw [hlk, lk_step]
    exact hZ a L w hCw hL h
  | succ fuel ih =>
    intro listed a L w hsz hd hup hfew hCw hL h
    have hG := h
    obtain ⟨hne, hall⟩ := h ⟨w, hCPC w hCw, hL⟩
    have harr : fuel + 1 + (r + 1) = (fuel + (r + 1)) + 1 := by omega
    rw [harr]
    refine ⟨fun h0 => ?_, fun i hi => ?_⟩
    · exfalso; apply hne; unfold sready; rw [h0]; rfl
    · have hle := late listed i hsz hd hup hi
      rcases Nat.lt_or_ge i j with him | hge
      · obtain ⟨o, ho, hg⟩ := hall i (mem_sready.2 ⟨hi, him⟩)
        have hiun := (mem_ready.1 hi).1
        have next : ∀ a' L' w', CP w' → HoldsL n0 L' w' → wpAnyG P md ops C n0 kd j Z fuel (listed.setIfInBounds i true) a' L' → wpAnyIn (FR ro) 0 P md ops Q (fuel + (r + 1)) (listed.setIfInBounds i true) a' w' := by
          intro a' L' w' hC' hL' h'
          refine ih _ a' L' w' (by simpa using hsz) (hd.step hi) (fun i' hi' hin' => ?_) (hfew.step him hiun) hC' hL' h'
          rw [getD_set_ne true (by omega)]; exact hup i' hi' hin'
        have hg := hg ⟨w, hCPC w hCw, hL⟩
        unfold wpOpIn
        simp only [ho]
        split
        · rename_i hw
          simp only [hw, if_true] at hg
          refine ⟨fun _ _ => trivial, ?_⟩
          obtain ⟨S, hS, hk⟩ := hg
          have hcl : CL ops C n0 o L w := CL_of (hCPC w hCw) hL
          cases hkd : kd i with
          | det =>
            rw [hkd] at hS
            obtain ⟨v, hv, hSv⟩ := hS
            have := hv w hcl
            have hK := hk v [] ((hSv v []).2 rfl)
            rw [semAt_run this.not]
            generalize (execOp a.eval o).run P w = res at *
            cases res with
            | halt x w' => simp only [detUpon] at this
            | ok nx w' =>
              cases nx <;> simp only [detUpon] at this <;> simp only [Oper.uponIn]
              case value u => obtain ⟨rfl, rfl⟩ := this; exact next _ _ _ hCw hL hK
              case skip => obtain ⟨rfl, rfl⟩ := this; exact next _ _ _ hCw hL hK
              case enter f args =>
                obtain ⟨rfl, _, hc⟩ := this
                exact ⟨FR_dep, calls_FR (hc.mono fun e w'' ⟨he, hkp⟩ => by subst he; exact next _ _ _ (hCP _ _ hCw hkp) (hL.keep hkp) hK)⟩
          | new =>
            rw [hkd] at hS
            obtain ⟨v, w', hr, hkp, hSv⟩ := hS w hcl
            rw [semAt_run (by rw [hr]; trivial), hr]
            exact next _ _ _ (hCP w w' hCw hkp) (hL.add _ (hn w (hCPC w hCw)) hkp) (hk _ _ hSv)
          | mem φ =>
            rw [hkd] at hS
            obtain ⟨hS1, hS2⟩ := hS
            have := hS2 w hcl
            rw [semAt_run this.not]
            generalize (execOp a.eval o).run P w = res at *
            cases res with
            | halt x w' => simp only [memUpon] at this
            | ok nx w' =>
              cases nx <;> simp only [memUpon] at this <;> simp only [Oper.uponIn]
              case value u => exact next _ _ _ (hCP w w' hCw this.1) (hL.add _ (hn w (hCPC w hCw)) this.1) (hk _ _ ((hS1 _ _).2 this.2))
              case enter f args =>
                obtain ⟨rfl, hc⟩ := this
                exact ⟨FR_dep, calls_FR (hc.mono fun e w'' ⟨v, he, hkp, hφ⟩ => by subst he; exact next _ _ _ (hCP _ _ hCw hkp) (hL.add _ (hn _ (hCPC _ hCw)) hkp) (hk _ _ ((hS1 _ _).2 hφ)))⟩
        · rename_i hw
          simp only [hw] at hg
          exact ⟨fun _ _ => trivial, next _ _ _ hCw hL hg⟩
      · have hij : i = j := by omega
        subst hij
        have hw : ∀ e ∈ oj.after, Region.binds md e = true → listed.getD e.on false = true := fun e he hb => by
          obtain ⟨_, o', ho', hall'⟩ := mem_ready.1 hi
          rw [hj] at ho'; cases ho'
          exact hall' e he hb
        obtain ⟨a', g1, g2, g3⟩ := after_run hsel hj hpl (hCPC w hCw) (fuel + 1) listed a L hsz hd hup hw hL hG
        obtain ⟨b1, nx, v, w', b2, b3, b4, b5⟩ := hZ2 a' L w hCw hL g1
        rw [g2] at b2
        rw [g3] at b1
        have key := wpAny_after (ro := ro) (r := r) (Q := Q) (vj := v) (wp := w) (w' := w') (nxj := nx) hj hB1 hsel hpl b4 b3 (fun a1 L1 hL1 hL1' hz hrun hwant => ?_) (fuel + 1) listed a L hsz hd hup hw hfew hL b5 b2 b1 hG
        · unfold wpOpIn
          simp only [hj, b1, if_true]
          refine ⟨fun _ _ => trivial, ?_⟩
          rw [Oper.semAt_eq _ _ _ hnd, b2]
          have ef : fuel + (r + 1) = fuel + 1 + r := by omega
          rw [ef]
          rcases b3 with rfl | ⟨rfl, rfl⟩
          · exact key
          · exact key
        · have h1 := hZ a1 L1 w hCw hL1 hz
          unfold wpOpIn at h1
          simp only [hj, hwant, if_true] at h1
          have h1 := h1.2
          rw [Oper.semAt_eq _ _ _ hnd, hrun] at h1
          rcases b3 with rfl | ⟨rfl, rfl⟩
          · exact h1
          · exact h1
end

section
variable {c : Cx} {env : Env} {F : Know} {own : Own} {Q : Exit → Act → World → Prop}

def barjB (ops : Array Oper) (kd : Nat → Kind) (f k j : Nat) (l : List Nat) : Bool :=
  decide (k ≤ j) && decide (j < ops.size) && (l.length == j - k) && Region.noSelect ops && dnB .any ops k && barB .any ops f (j + 1) && lexG .any ops j l (lk ops.size k) &&
    match ops[j]? with
    | some oj => (match oj.op with | .defer _ => false | _ => true) && oj.after.all (fun e => !Region.binds .any e || decide (e.on < j)) && barPlain .any ops f j oj kd
    | none => false

/-- What a barrier leaves, as to what is not its own. -/
def Bar (c : Cx) (ops : Array Oper) (j : Nat) (env : Env) (F : Know) (V : List Nat) (own own' : Own) : Prop :=
  ∀ a w oj, ops[j]? = some oj → Hd c env F own a w → Region.wanted oj (yielded ops a.tmps) = true ∧ ∃ nx v w', (execOp a.eval oj).run c.P w = .ok nx w' ∧ ((nx = .value v) ∨ (nx = .skip ∧ v = undef)) ∧ Sat c F own' w' ∧ Keep V w w'

/-- The operations from k up to j, where operation j, which is no call, may come up ahead of some of them. own': what these may look at; news: nothing is made by them. -/
theorem r_bar {ops : Array Oper} {k : Nat} (f j : Nat) (ns : List Nat) (l : List Nat) (own' : Own) (hB : barjB ops (kindOf ns []) f k j l = true) (hs' : own'.Sublist own)
    (h : SG c ops F own' (kindOf ns []) (fun env' N' => R c true ops Q j env' F (ownsI N' ++ own) ∧ Bar c ops j env' F (idsO own) (ownsI N' ++ own) (ownsI N' ++ own')) l env []) : R c true ops Q k env F own := by
  simp only [barjB, Bool.and_eq_true, decide_eq_true_eq, beq_iff_eq] at hB
  obtain ⟨⟨⟨⟨⟨⟨⟨hkj, hjn⟩, hlen⟩, hsel⟩, hdn⟩, hbar⟩, hlex⟩, hrest⟩ := hB
  obtain ⟨oj, hoj⟩ : ∃ oj, ops[j]? = some oj := ⟨ops[j], by rw [Array.getElem?_eq_getElem hjn]⟩
  simp only [hoj, Bool.and_eq_true] at hrest
  obtain ⟨⟨hnd, hdep⟩, hpl⟩ := hrest
  have hnd' : ∀ d, oj.op ≠ .defer d := by
    intro d hd; rw [hd] at hnd; cases hnd
  intro a w hd
  have e1 : ops.size - k = (j - k) + ((ops.size - (j + 1)) + 1) := by omega
  simp only [RestOf]
  rw [e1]
  have hsd := hd.sat.sub hs'
  have hC : ∀ w1 w2, CW c F own' w.heap.size w1 → Keep [] w1 w2 → CW c F own' w.heap.size w2 := fun w1 w2 h1 hk => ⟨h1.1.keep' hk, Nat.le_trans h1.2 hk.size⟩
  have hn : ∀ w1, CW c F own' w.heap.size w1 → w.heap.size ≤ w1.heap.size := fun w1 h1 => h1.2
  have fin : ∀ a1 L1 w1, CW c F own w.heap.size w1 → HoldsL w.heap.size L1 w1 → Zfin c F own' w.heap.size (fun env' N' => R c true ops Q j env' F (ownsI N' ++ own) ∧ Bar c ops j env' F (idsO own) (ownsI N' ++ own) (ownsI N' ++ own')) a1 L1 →
      ∃ env' N' L2, SubP L2 L1 ∧ Real F N' L2 ∧ Hd c env' F (ownsI N' ++ own) a1 w1 ∧ R c true ops Q j env' F (ownsI N' ++ own) ∧ Bar c ops j env' F (idsO own) (ownsI N' ++ own) (ownsI N' ++ own') := by
    intro a1 L1 w1 h1 hL hz
    obtain ⟨env', N', L2, g1, g2, g3, g4, g5⟩ := hz ⟨w1, ⟨h1.1.sub hs', h1.2⟩, hL⟩
    refine ⟨env', N', L2, g1, g2, ⟨g3, join_real h1.1 hd.sat.ownlt hd.sat.knowlt hd.sat.keep.size (hL.sub g1) g2⟩, g4, g5⟩
  refine wpAny_bar (kd := kindOf ns []) (n0 := w.heap.size) (C := CW c F own' w.heap.size) (CP := CW c F own w.heap.size) hoj hbar hsel hdep hpl hC hn (fun w1 w2 h1 hk => ⟨h1.1.keep' hk, Nat.le_trans h1.2 hk.size⟩) (fun w1 h1 => ⟨h1.1.sub hs', h1.2⟩) hnd'
    (Z := Zfin c F own' w.heap.size (fun env' N' => R c true ops Q j env' F (ownsI N' ++ own) ∧ Bar c ops j env' F (idsO own) (ownsI N' ++ own) (ownsI N' ++ own'))) ?_ ?_ (j - k) (lk ops.size k) a [] w (lk_size _ _) (dnB_spec hdn) (fun i hi hin => ?_) (few_lk (by omega)) ⟨hd.sat, Nat.le_refl _⟩ (HoldsL.nil _ _) ?_
  · intro a1 L1 w1 h1 hL hz
    obtain ⟨env', N', L2, _, _, g3, g4, _⟩ := fin a1 L1 w1 h1 hL hz
    have := g4 a1 w1 g3
    simp only [RestOf] at this
    have e2 : ops.size - j = (ops.size - (j + 1)) + 1 := by omega
    rw [e2] at this
    have hr : j ∈ Region.ready .any ops (lk ops.size j) := by
      refine mem_ready.2 ⟨by rw [lk_get true hjn]; simp, oj, hoj, fun e he hb => ?_⟩
      have := Array.all_eq_true_iff_forall_mem.1 hdep e he
      simp only [hb, Bool.not_true, Bool.false_or, decide_eq_true_eq] at this
      rw [lk_get false (by omega)]
      simpa using this
    have := this.2 j hr
    rwa [lk_step] at this
  · intro a1 L1 w1 h1 hL hz
    obtain ⟨env', N', L2, g1, g2, g3, _, g5⟩ := fin a1 L1 w1 h1 hL hz
    obtain ⟨k1, nx, v, w', k2, k3, k4, k5⟩ := g5 a1 w1 oj hoj g3
    refine ⟨k1, nx, v, w', k2, k3, ⟨k4.sub (List.sublist_append_right _ _), Nat.le_trans h1.2 k5.size⟩, hL.nodup, fun x hx => ⟨(hL.at_ x hx).1, ?_⟩⟩
    refine k5.block (hL.at_ x hx).2 fun hm => ?_
    obtain ⟨y, hy, e⟩ := List.mem_map.1 hm
    have := hd.sat.ownlt y hy
    have := (hL.at_ x hx).1
    omega
  · rw [lk_get true hin]; simp; omega
  · rw [← hlen]
    exact wpAnyG_lex hC hn Zfin_inv hsel l _ a [] (by rw [hlen]; exact few_lk (by omega)) hlex (h (lexG_in l _ hlex) w.heap.size a [] (fun x hx => hd.sat.ownlt x (hs'.subset hx)) hd.env .nil)

variable {ty : TypeId} {ps : String} {af : Array Edge} {g : Option (Nat × Bool)} {l : List Oper} {k : Nat} {V : List Nat} {own' : Own}

theorem keep_setBlk {w : World} {p : Nat} {ob : Obj} (hp : p ∈ V) : Keep V w (setBlk w p ob) :=
  ⟨rfl, rfl, rfl, by simp [setBlk], fun b hb hs => by
    have hne : b ≠ p := fun e => hs (e ▸ hp)
    simp only [setBlk]; rw [Array.getElem?_setIfInBounds_ne (Ne.symm hne)]⟩

theorem bar_st1 {t : TypeId} {x y : Operand} {A : Addr} {p j : Nat} {cs cs' : List Value} {T : TypeId} {v : Value} {own2 : Own} (ho : nthO l k = some ⟨none, .store t x y, ty, ps, af, g⟩) (ht : TOne c.P t) (hx : Env.ev env x = some (.pointer (some A))) (hA : A = ⟨p, j, none⟩) (hy : Env.ev env y = some v)
    (hu : Upd p (.cells cs.toArray T (0, 0)) (.cells cs'.toArray T (0, 0)) own own2) (hs : setV j [v] cs some = some cs')
    (hw : wantedB l.toArray env ⟨none, .store t x y, ty, ps, af, g⟩) (hv : oneCell v = true) (hp : p ∈ V) (hsub : own'.Sublist own2) : Bar c l.toArray k env F V own own' := by
  intro a w oj hoj hh
  rw [← nthO_eq, ho] at hoj
  cases hoj
  subst hA
  obtain ⟨h1, h2⟩ := setV_some hs
  simp only [Option.some.injEq] at h2
  refine ⟨wanted_of hh.env hw, .skip, undef, setBlk w p (.cells cs'.toArray T (0, 0)), ?_, .inr ⟨rfl, rfl⟩, (hh.sat.upd hu).sub hsub, keep_setBlk hp⟩
  have hc : v.cells = [v].toArray := by cases v <;> simp [oneCell] at hv <;> rfl
  have hr := run_storeAt (P := c.P) (w := w) (t := t) (n := 1) (k := j) ht.size hc rfl (hh.sat.own _ hu.mem) h1 (by simp [hv])
  rw [h2] at hr
  simp only [execOp, hh.env.eval hx, hh.env.eval hy, Sem.run_bind, hr, Result.andThen_ok, Sem.run_pure]

theorem bar_stN {t : TypeId} {n : Nat} {x y : Operand} {A : Addr} {p j : Nat} {vs cs cs' : List Value} {T : TypeId} {own2 : Own} (ho : nthO l k = some ⟨none, .store t x y, ty, ps, af, g⟩) (ht : TAgg c.P t n) (hx : Env.ev env x = some (.pointer (some A))) (hA : A = ⟨p, j, none⟩) (hy : Env.ev env y = some (.agg vs.toArray))
    (hu : Upd p (.cells cs.toArray T (0, 0)) (.cells cs'.toArray T (0, 0)) own own2) (hs : setV j vs cs some = some cs')
    (hw : wantedB l.toArray env ⟨none, .store t x y, ty, ps, af, g⟩) (hn : vs.length = n) (hv : vs.all oneCell = true) (hp : p ∈ V) (hsub : own'.Sublist own2) : Bar c l.toArray k env F V own own' := by
  intro a w oj hoj hh
  rw [← nthO_eq, ho] at hoj
  cases hoj
  subst hA
  obtain ⟨h1, h2⟩ := setV_some hs
  simp only [Option.some.injEq] at h2
  refine ⟨wanted_of hh.env hw, .skip, undef, setBlk w p (.cells cs'.toArray T (0, 0)), ?_, .inr ⟨rfl, rfl⟩, (hh.sat.upd hu).sub hsub, keep_setBlk hp⟩
  have hr := run_storeAt (P := c.P) (w := w) (t := t) (n := n) (k := j) ht.size (v := .agg vs.toArray) rfl hn (hh.sat.own _ hu.mem) h1 hv
  rw [h2] at hr
  simp only [execOp, hh.env.eval hx, hh.env.eval hy, Sem.run_bind, hr, Result.andThen_ok, Sem.run_pure]

/-- An append to a slice of one's own whose block stands last. -/
theorem bar_app {s x : Operand} {T e : TypeId} {size bytes : Nat} {pre b : Own} {v : Value} {n : Nat} {xs : List Value} {A : Option Addr} {m cp : Nat} {news : List Value} {t : Tmp}
    (ho : nthO l k = some ⟨some t, .call { callee := .builtin .append, args := #[s, x], argTypes := #[T, T] }, ty, ps, af, g⟩) (hT : AppT c.P T e size bytes) (hv : Env.ev env s = some v) (hx : Env.ev env x = some (.slice A m cp))
    (hw : wantedB l.toArray env ⟨some t, .call { callee := .builtin .append, args := #[s, x], argTypes := #[T, T] }, ty, ps, af, g⟩)
    (hS : SlO e size v n xs b) (hl : news.length = m * size) (hnews : ∀ w, Sat c F (pre ++ b) w → ∀ j u, news[j]? = some u → ∃ a, A = some a ∧ w.cell? (a.add j) = some u) (h1 : ∀ u ∈ news, u.oneCell' = true)
    (hm : (n + m) * bytes ≤ 140737488355328) (hm2 : n + m ≤ maxLen) (hV : ∀ i ∈ idsO b, i ∈ V) (hsub : own'.Sublist pre) : Bar c l.toArray k env F V (pre ++ b) own' := by
  intro a w oj hoj hh
  rw [← nthO_eq, ho] at hoj
  cases hoj
  have hs0 : Sat c F (pre ++ (b ++ [])) w := by simpa using hh.sat
  obtain ⟨v', w', b', hr, h2, h3⟩ := run_append_sl hT hS hl hs0 (hnews w hh.sat) h1 hm hm2 ty
  have hs1 : Sat ⟨c.P, c.n, w, idsO b, c.ro, c.df⟩ noK ([] ++ (b ++ [])) w := by
    refine ⟨Keep.refl _ _, fun _ _ h => (by cases h), fun _ _ h => (by cases h), ?_, fun x hx => .inr ?_, fun x hx => ?_⟩
    · have := hh.sat.nodup
      rw [List.map_append, List.nodup_append] at this
      simpa using this.2.1
    · simp only [List.nil_append, List.append_nil] at hx
      exact List.mem_map_of_mem hx
    · simp only [List.nil_append, List.append_nil] at hx
      exact hh.sat.own x (List.mem_append_right _ hx)
  obtain ⟨v2, w2, b2, hr2, _, h4⟩ := run_append_sl (c := ⟨c.P, c.n, w, idsO b, c.ro, c.df⟩) hT hS hl hs1 (hnews w hh.sat) h1 hm hm2 ty
  rw [hr] at hr2
  injection hr2 with e1 e2
  subst e1; subst e2
  refine ⟨wanted_of hh.env hw, .value v', v', w', ?_, .inl rfl, h3.sub (hsub.trans (List.sublist_append_left _ _)), h4.keep.mono hV⟩
  unfold execOp
  simp only [resolve, invoke, builtin, Sem.run_bind, Sem.run_pure, Result.andThen_ok, List.map_toArray, List.map_cons, List.map_nil, hh.env.eval hv, hh.env.eval hx]
  rw [hr]
  rfl
end
end Go.Eng

/-
  The engine, part 15: ways that meet again behind a region.
-/
namespace Go.Eng
open Go
section
variable {c : Cx} {env : Env} {F : Know} {own : Own} {Q : Exit → Act → World → Prop}
/-- A region whose ways all come to the same: the slot t holds v, what stood in env0 stands. -/
theorem t_merge {x : Code} {env0 : Env} (he : Env.sub env0 env) (t : Nat) (v : Value) (h1 : TK c ((t, v) :: env0) F own (Q .normal)) (h2 : TK c ((t, v) :: env0) F own (Q .normal) → T c env F own x Q) : T c env F own x Q := h2 h1
theorem mb {t : Nat} {e X : Bool} (h : Env.get env t = some (.bool e)) (he : e = X) : Env.get env t = some (.bool X) := by rw [← he]; exact h
theorem mi {t : Nat} {k : IntKind} {e X : Int} (h : Env.get env t = some (.int k e)) (he : e = X) : Env.get env t = some (.int k X) := by rw [← he]; exact h

theorem Sat.less {F' : Know} {w : World} (h : Sat c F own w) (hF : Incl F' F) : Sat c F' own w :=
  ⟨h.keep, fun a v ha => h.know a v (hF a v ha), fun a v ha => h.away a v (hF a v ha), h.nodup, h.ids, h.own⟩
/-- A loop: what is known of memory changes too. -/
theorem t_whileK {x : Code} {σ : Type} (M : σ → Env) (G : σ → Know) (O : σ → Own) (μ : σ → Nat) (I : σ → Prop) (s0 : σ) {env0 : Env} (h0 : I s0) (hG : Incl (G s0) F) (hm : Env.sub (M s0) env) (h1 : Env.sub env0 env) (ho : (O s0).Sublist own)
    (round : ∀ s, I s → T c (M s ++ env0) (G s) (O s) x (Exit.then (fun a w => ∃ s', I s' ∧ μ s' < μ s ∧ Hd c (M s' ++ env0) (G s') (O s') a w) Q)) : T c env F own (.loop x) Q := by
  refine t_loop (fun s => M s ++ env0) G O μ I s0 h0 (fun a w hd => ?_) round
  have hsub : Env.sub (M s0 ++ env0) env := by
    generalize M s0 = m at hm
    induction m with
    | nil => exact h1
    | cons y r ih => obtain ⟨t, v⟩ := y; exact ⟨hm.1, ih hm.2⟩
  have := hd.drop hsub ho
  exact ⟨this.env, this.sat.less hG⟩
theorem loop_backK {σ : Type} {E : σ → Env} {G : σ → Know} {O : σ → Own} {μ : σ → Nat} {I : σ → Prop} {s : σ} (s' : σ) (h0 : I s') (hm : μ s' < μ s) (hG : Incl (G s') F) (he : Env.sub (E s') env) (ho : (O s').Sublist own) :
    TK c env F own (fun a w => ∃ s', I s' ∧ μ s' < μ s ∧ Hd c (E s') (G s') (O s') a w) := fun _ _ hd => ⟨s', h0, hm, (hd.drop he ho).env, (hd.drop he ho).sat.less hG⟩
theorem incl_refl : Incl F F := fun _ _ h => h
/-- A growing slice of one's own that is written no more. -/
theorem tk_freezeS {K : Act → World → Prop} {pre b post : Own} {e : TypeId} {size n : Nat} {A : Option Addr} {cp : Nat} {xs : List Value} (hS : SlO e size (.slice A n cp) n xs b) (hc : c.S = [])
    (h : ∀ F', Incl F F' → Fresh c F F' → (∀ j u, xs[j]? = some u → ∃ a, A = some a ∧ F' (a.add j) = some u) → TK c env F' (pre ++ post) K) : TK c env F (pre ++ (b ++ post)) K := by
  rcases hS.2 with ⟨hv, rfl, rfl⟩ | ⟨p, cap, rest, hv, rfl, _⟩
  · have : xs = [] := List.eq_nil_of_length_eq_zero (by simpa using hS.1)
    subst this
    exact h F (fun _ _ h => h) (fun _ _ h => .inl h) (fun j u hj => by simp at hj)
  · cases hv
    refine tk_freeze hc fun F' h1 h2 h3 => h F' h1 h2 fun j u hj => ⟨_, rfl, ?_⟩
    rw [add_mk, Nat.zero_add]
    exact h3 j u (by rw [List.getElem?_append_left (List.getElem?_eq_some_iff.1 hj).1]; exact hj)
/-- Two growing slices stand last: the other way round. -/
theorem tk_swap {K : Act → World → Prop} {pre b b' : Own} (h : TK c env F (pre ++ (b' ++ b)) K) : TK c env F (pre ++ (b ++ b')) K :=
  tk_perm (List.perm_append_comm.append_left pre) h
theorem tk_freezeL {K : Act → World → Prop} {pre b : Own} {e : TypeId} {size n : Nat} {A : Option Addr} {cp : Nat} {xs : List Value} (hS : SlO e size (.slice A n cp) n xs b) (hc : c.S = [])
    (h : ∀ F', Incl F F' → Fresh c F F' → (∀ j u, xs[j]? = some u → ∃ a, A = some a ∧ F' (a.add j) = some u) → TK c env F' pre K) : TK c env F (pre ++ b) K := by
  have := tk_freezeS (c := c) (env := env) (F := F) (K := K) (pre := pre) (b := b) (post := []) hS hc (by simpa using h)
  simpa using this
end
end Go.Eng

/-
  The engine, part 16: a move that is unordered with the barrier ahead of it.
-/
namespace Go.Eng
open Go
section
variable {c : Cx} {env : Env} {F : Know} {own : Own} {Q : Exit → Act → World → Prop}
variable {ty : TypeId} {ps : String} {af : Array Edge} {g : Option (Nat × Bool)} {l : List Oper} {k : Nat}

def aheadB (ops : Array Oper) (k : Nat) : Bool :=
  Region.noSelect ops && Region.free .any ops (lk ops.size k) (k + 1) && (Region.ready .any ops (lk ops.size k)).contains (k + 1) && (Region.ready .any ops ((lk ops.size k).setIfInBounds (k + 1) true) == [k])

/-- The move behind operation k is taken ahead of it. -/
theorem r_ahead {x : Operand} {t : Tmp} {v : Value} {ty1 : TypeId} {ps1 : String} {af1 : Array Edge} (hro : c.ro = none) (hB : aheadB l.toArray k = true) (ho : nthO l (k + 1) = some ⟨some t, .move x, ty1, ps1, af1, none⟩) (hd : Nat.blt t c.n = true) (hx : Env.ev env x = some v)
    (h : TK c ((t, v) :: env) F own (wpOpIn (FR c.ro) 0 c.P l.toArray (noPanic Q) k (RestOf c.ro true c.P l.toArray (noPanic Q) (k + 2)))) : R c true l.toArray Q k env F own := by
  simp only [aheadB, Bool.and_eq_true, beq_iff_eq] at hB
  obtain ⟨⟨⟨h1, h2⟩, h3⟩, h4⟩ := hB
  have ho' : l.toArray[k + 1]? = some ⟨some t, .move x, ty1, ps1, af1, none⟩ := by rw [← nthO_eq]; exact ho
  have hlt := (Array.getElem?_eq_some_iff.1 ho').1
  intro a w hh
  simp only [RestOf, hro] at h ⊢
  refine wpAny_noPanic _ _ _ _ ?_
  have e1 : l.toArray.size - k = (l.toArray.size - (k + 2) + 1) + 1 := by omega
  rw [e1]
  refine wpAnyIn_take (v := v) rfl ho' h1 h2 h3 (fun _ _ _ h => h.elim) ⟨.inl ⟨rfl, fun w => by simp [execOp, hh.env.eval hx]⟩, fun w => rfl⟩ ?_
  refine ⟨fun h0 => (by rw [h4] at h0; cases h0), fun i hi => ?_⟩
  rw [h4, List.mem_singleton] at hi
  subst hi
  have e2 : ((lk l.toArray.size i).setIfInBounds (i + 1) true).setIfInBounds i true = lk l.toArray.size (i + 2) := by
    rw [Array.setIfInBounds_comm _ _ (by omega), lk_step, lk_step]
  rw [e2]
  exact h _ _ ⟨hh.env.put' (d := some t) hd v, hh.sat⟩

/-- An append to a slice of one's own whose block stands last, as one operation. -/
theorem op_app {s x : Operand} {T e : TypeId} {size bytes : Nat} {pre b : Own} {v : Value} {n : Nat} {xs : List Value} {A : Option Addr} {m cp : Nat} {news : List Value} {t : Tmp} {K : Act → World → Prop}
    (ho : nthO l k = some ⟨some t, .call { callee := .builtin .append, args := #[s, x], argTypes := #[T, T] }, ty, ps, af, g⟩) (hT : AppT c.P T e size bytes) (hv : Env.ev env s = some v) (hx : Env.ev env x = some (.slice A m cp))
    (hd : Nat.blt t c.n = true) (hw : wantedB l.toArray env ⟨some t, .call { callee := .builtin .append, args := #[s, x], argTypes := #[T, T] }, ty, ps, af, g⟩)
    (hS : SlO e size v n xs b) (hl : news.length = m * size) (hnews : ∀ w, Sat c F (pre ++ b) w → ∀ j u, news[j]? = some u → ∃ a, A = some a ∧ w.cell? (a.add j) = some u) (h1 : ∀ u ∈ news, u.oneCell' = true)
    (hm : (n + m) * bytes ≤ 140737488355328) (hm2 : n + m ≤ maxLen)
    (hn : ∀ A' cp' b', SlO e size (.slice A' (n + m) cp') (n + m) (xs ++ news) b' → TK c ((t, .slice A' (n + m) cp') :: env) F (pre ++ b') K) : TK c env F (pre ++ b) (wpOpIn (FR c.ro) 0 c.P l.toArray Q k K) := by
  intro a w hh
  unfold wpOpIn
  have ho' : l.toArray[k]? = some ⟨some t, .call { callee := .builtin .append, args := #[s, x], argTypes := #[T, T] }, ty, ps, af, g⟩ := by rw [← nthO_eq]; exact ho
  simp only [ho', wanted_of hh.env hw, if_true]
  refine ⟨fun _ _ => trivial, ?_⟩
  rw [Oper.semAt_eq _ _ _ (fun _ h => by cases h)]
  have hs0 : Sat c F (pre ++ (b ++ [])) w := by simpa using hh.sat
  obtain ⟨v', w', b', hr, h2, h3⟩ := run_append_sl hT hS hl hs0 (hnews w hh.sat) h1 hm hm2 ty
  unfold execOp
  simp only [resolve, invoke, builtin, Sem.run_bind, Sem.run_pure, Result.andThen_ok, List.map_toArray, List.map_cons, List.map_nil, hh.env.eval hv, hh.env.eval hx]
  rw [hr]
  obtain ⟨A', cp', rfl, _⟩ := h2.slice
  have h3' : Sat c F (pre ++ b') w' := by simpa using h3
  exact hn A' cp' b' h2 _ _ ⟨hh.env.put' (d := some t) (by simpa using hd) _, h3'⟩

theorem tk_rot1 {K : Act → World → Prop} {x : Nat × Obj} {r : Own} (h : TK c env F (r ++ [x]) K) : TK c env F (x :: r) K :=
  tk_perm (List.perm_append_comm (l₁ := [x]) (l₂ := r)) h
theorem smN {kd : Nat → Kind} {Z : Env → List Item → Prop} {N : List Item} (ns : List Item) {i : Nat} {r : List Nat} {o : Oper} {V : Nat → Value → Obj → Prop} {t : Tmp} (hns : Needs l.toArray o N ns) (ho : nthO l i = some o) (hN : ∀ F', Incl F F' → (∀ it ∈ ns, it.holds F') → New c F' own env o V) (ht : o.dst = some t) (hd : Nat.blt t c.n = true)
    (hw : wantedB l.toArray env o) (hn : kd i = .new) (h : ∀ p v ob, V p v ob → SG c l.toArray F own kd Z r ((t, v) :: env) (.own (some t) p ob :: N)) : SG c l.toArray F own kd Z (i :: r) env N :=
  sg_newN ns (by rw [← nthO_eq]; exact ho) (by rw [ht]; exact hd) hw hn hns hN fun p u b hv => by rw [ht]; exact h p u b hv
theorem heldC {c' : Cx} {F' : Know} {own' : Own} {t : Option Tmp} {p : Nat} {cs : List Value} {T : TypeId} {fr : Nat × Nat} {w : World} (hs : Sat c' F' own' w) (h : (Item.own t p (.cells cs.toArray T fr)).holds F') : ∀ j u, cs[j]? = some u → ∃ a, some (⟨p, 0, none⟩ : Addr) = some a ∧ w.cell? (a.add j) = some u :=
  fun j u hu => ⟨_, rfl, by rw [add_mk, Nat.zero_add]; exact hs.know _ _ (holdsK h j u hu)⟩
end
end Go.Eng

/-
  The engine, part 17: a move that is unordered with what stands ahead of it is taken in its place.
-/
namespace Go.Eng
open Go
section
variable {P : Program} {md : Region.Mode} {ops : Array Oper} {Q : Exit → Act → World → Prop}

/-- The other direction of `wpOpIn_put`. -/
theorem wpOp_put_rev {k : Nat} {oi ok : Oper} {v : Value} {x : Operand} {K K2 : Act → World → Prop} {a : Act} {w : World} (hx : ∀ d, ok.dst = some d → x ≠ .tmp d) (hk : ops[k]? = some ok) (hap : oi.apart ops ok = true) (hs : ∀ cs b, ok.op ≠ .select cs b)
    (hK : ∀ a' w', a'.eval x = a.eval x → K2 a' w' → K (a'.put oi.dst v) w') (h : wpOpIn (FR none) 0 P ops (noPanic Q) k K2 a w) : wpOpIn (FR none) 0 P ops (noPanic Q) k K (a.put oi.dst v) w := by
  obtain ⟨h1, h2, h3⟩ := Oper.apart_spec hap
  unfold wpOpIn at h ⊢
  simp only [hk] at h ⊢
  rw [wanted_put ok a oi.dst v h1]
  have ex : ∀ u, (a.put ok.dst u).eval x = a.eval x := fun u => Act.eval_put hx
  have pc : ∀ u, ((a.put oi.dst v).put ok.dst u) = (a.put ok.dst u).put oi.dst v := fun u => Act.put_comm a v u h2
  split
  · rename_i hw
    rw [if_pos hw] at h
    refine ⟨fun _ _ => trivial, ?_⟩
    have h := h.2
    rw [show (FR none).round = none from rfl, Oper.semAt_none] at h ⊢
    rw [execOp_put (ops := ops) ok hs a oi.dst v h1]
    generalize (execOp a.eval ok).run P w = r at h ⊢
    cases r with
    | halt x w' => cases x <;> simp only [Oper.uponIn] at h ⊢ <;> first | exact h | exact h.elim
    | ok nx w' =>
      cases nx <;> simp only [Oper.uponIn] at h ⊢
      case value u => rw [pc]; exact hK _ _ (ex _) h
      case skip => rw [pc]; exact hK _ _ (ex _) h
      case defer d =>
        have e : ({ a.put oi.dst v with defers := d :: (a.put oi.dst v).defers } : Act).put ok.dst undef = ({ a with defers := d :: a.defers }.put ok.dst undef).put oi.dst v := by
          have := Act.put_comm { a with defers := d :: a.defers } v undef h2
          rw [← this]
          cases oi.dst <;> rfl
        have ed : ({ a with defers := d :: a.defers }.put ok.dst undef).eval x = a.eval x := by
          rw [Act.eval_put hx]; cases x <;> rfl
        rw [e]; exact hK _ _ ed h
      case enter f args =>
        refine ⟨h.1, CallsIn.mono h.2 fun e w'' he => ?_⟩
        cases e with
        | returned u => dsimp only at he ⊢; rw [pc]; exact hK _ _ (ex _) he
        | panicked c => exact he.elim
        | outgrown => exact he
      case row row args =>
        refine ⟨h.1, RowsIn.mono h.2 fun u w'' he => ?_⟩
        rw [pc]; exact hK _ _ (ex _) he
      case round l f tmps asg body =>
        refine ⟨h.1, RoundIn.mono h.2 fun e w'' he => ?_⟩
        cases e with
        | returned u => dsimp only at he ⊢; rw [pc]; exact hK _ _ (ex _) he
        | panicked c => exact he.elim
        | outgrown => exact he
      all_goals exact h.elim
  · rename_i hw
    rw [if_neg hw] at h
    refine ⟨fun _ _ => trivial, ?_⟩
    rw [pc]; exact hK _ _ (ex _) h.2

/-- Operation i, a move, may wait for operation j too. -/
def lateB (md : Region.Mode) (ops : Array Oper) (i j : Nat) : Bool :=
  Region.noSelect ops && decide (j < i) && decide (i < ops.size) && match ops[i]? with
  | some oi => oi.guard.isNone && (match oi.op with | .move _ => true | _ => false) &&
      (List.range ops.size).all fun k => match ops[k]? with
        | some o => o.after.all (fun e => !Region.binds md e || decide (e.on < k)) && (k == i || oi.after.any (fun e => Region.binds md e && e.on == k) ||
            (if o.after.any (fun e => Region.binds md e && e.on == i) then o.after.any (fun e => Region.binds md e && e.on == j) else oi.apart ops o))
        | none => true
  | none => false

theorem ready_late {i j k : Nat} {listed : Array Bool} (hne : k ≠ i) : k ∈ Region.ready md (force ops j i) listed ↔ k ∈ Region.ready md ops listed := by
  rw [mem_ready, mem_ready, force_get]
  constructor
  · rintro ⟨h0, o, ho, hall⟩
    cases hk : ops[k]? with
    | none => rw [hk] at ho; cases ho
    | some o' => rw [hk] at ho; simp only [Option.map_some, if_neg (Ne.symm hne), Option.some.injEq] at ho; subst ho; exact ⟨h0, _, rfl, hall⟩
  · rintro ⟨h0, o, ho, hall⟩
    exact ⟨h0, o, by rw [ho]; simp [Ne.symm hne], hall⟩
theorem ready_late_i {i j : Nat} {listed : Array Bool} : i ∈ Region.ready md (force ops j i) listed ↔ i ∈ Region.ready md ops listed ∧ (Region.binds md ⟨j, .data⟩ = true → listed.getD j false = true) := by
  rw [mem_ready, mem_ready, force_get]
  constructor
  · rintro ⟨h0, o, ho, hall⟩
    cases hk : ops[i]? with
    | none => rw [hk] at ho; cases ho
    | some o' =>
      rw [hk] at ho
      simp only [Option.map_some, if_true, Option.some.injEq] at ho
      subst ho
      exact ⟨⟨h0, o', rfl, fun e he => hall e (Array.mem_push.2 (.inl he))⟩, fun hb => hall ⟨j, .data⟩ (Array.mem_push.2 (.inr rfl)) hb⟩
  · rintro ⟨⟨h0, o, ho, hall⟩, hj⟩
    refine ⟨h0, { o with after := o.after.push ⟨j, .data⟩ }, by rw [ho]; simp, fun e he hb => ?_⟩
    rcases Array.mem_push.1 he with he | rfl
    · exact hall e he hb
    · exact hj hb

theorem late_same {i j : Nat} : ∀ (fuel : Nat) (listed : Array Bool) (a : Act) (w : World), listed.getD i true = true → wpAnyIn (FR none) 0 P md (force ops j i) (noPanic Q) fuel listed a w → wpAnyIn (FR none) 0 P md ops (noPanic Q) fuel listed a w := by
  have key : ∀ (listed : Array Bool), listed.getD i true = true → ∀ k, k ∈ Region.ready md ops listed → k ∈ Region.ready md (force ops j i) listed := by
    intro listed hi k hk
    have hne : k ≠ i := by rintro rfl; have := (mem_ready.1 hk).1; rw [hi] at this; cases this
    exact (ready_late hne).2 hk
  have key2 : ∀ (listed : Array Bool), listed.getD i true = true → Region.ready md ops listed = [] → Region.ready md (force ops j i) listed = [] := by
    intro listed hi h0
    refine List.eq_nil_iff_forall_not_mem.2 fun k hk => ?_
    have hne : k ≠ i := by rintro rfl; have := (mem_ready.1 hk).1; rw [hi] at this; cases this
    have := (ready_late hne).1 hk
    rw [h0] at this; cases this
  have key3 : ∀ (listed : Array Bool) k, listed.getD i true = true → (listed.setIfInBounds k true).getD i true = true := by
    intro listed k h
    by_cases hk : k = i
    · subst hk; exact getD_set_self
    · rw [getD_set_ne true hk]; exact h
  intro fuel
  induction fuel with
  | zero =>
    intro listed a w hi h
    refine ⟨List.eq_nil_iff_forall_not_mem.2 fun k hk => ?_, h.2⟩
    have := key listed hi k hk
    rw [h.1] at this; cases this
  | succ fuel ih =>
    intro listed a w hi h
    refine ⟨fun h0 => h.1 (key2 listed hi h0), fun k hk => ?_⟩
    have := h.2 k (key listed hi k hk)
    rw [force_wpOp] at this
    exact wpOpIn_mono (fun a w h => ih _ a w (key3 listed k hi) h) this

theorem wpAny_late {i j : Nat} {oi : Oper} {x : Operand} (hoi : ops[i]? = some oi) (hm : oi.op = .move x) (hg : oi.guard = none) (hji : j < i) (hsel : Region.noSelect ops = true) (hbd : Region.binds md ⟨j, .data⟩ = true)
    (htop : ∀ k o, ops[k]? = some o → ∀ e ∈ o.after, Region.binds md e = true → e.on < k)
    (hap : ∀ k o, ops[k]? = some o → k ≠ i → (∀ e ∈ oi.after, Region.binds md e = true → e.on ≠ k) → (∃ e ∈ o.after, Region.binds md e = true ∧ e.on = i) ∧ (∃ e ∈ o.after, Region.binds md e = true ∧ e.on = j) ∨ (∀ e ∈ o.after, Region.binds md e = true → e.on ≠ i) ∧ oi.apart ops o = true) :
    ∀ (fuel : Nat) (listed : Array Bool), listed.size = ops.size → Few ops.size listed fuel →
      (listed.getD i true = false → ∀ a w, wpAnyIn (FR none) 0 P md (force ops j i) (noPanic Q) fuel listed a w → wpAnyIn (FR none) 0 P md ops (noPanic Q) fuel listed a w) ∧
      (listed.getD j true = false → i ∈ Region.ready md ops listed → ∀ a w, ∀ f, fuel = f + 1 → wpAnyIn (FR none) 0 P md (force ops j i) (noPanic Q) fuel listed a w → wpAnyIn (FR none) 0 P md ops (noPanic Q) f (listed.setIfInBounds i true) (a.put oi.dst (a.eval x)) w) := by
  have hin : i < ops.size := (Array.getElem?_eq_some_iff.1 hoi).1
  have hlt : ∀ (listed : Array Bool) k, listed.size = ops.size → k < ops.size → listed.getD k true = listed.getD k false := by
    intro listed k h1 h2
    have : k < listed.size := by omega
    simp [this]
  have hself : ∀ cs b, oi.op ≠ .select cs b := fun cs b => Region.noSelect_spec hsel i oi cs b hoi
  -- a move
  have hY : ∀ (a : Act) (w : World) (K : Act → World → Prop), K (a.put oi.dst (a.eval x)) w → wpOpIn (FR none) 0 P ops (noPanic Q) i K a w := by
    intro a w K h
    unfold wpOpIn
    simp only [hoi]
    have hwn : Region.wanted oi (yielded ops a.tmps) = true := by unfold Region.wanted; rw [hg]
    rw [if_pos hwn]
    refine ⟨fun _ _ => trivial, ?_⟩
    rw [show (FR none).round = none from rfl, Oper.semAt_none]
    simp only [execOp, hm, Sem.run_pure, Oper.uponIn]
    exact h
  have hY2 : ∀ (a : Act) (w : World) (K : Act → World → Prop), wpOpIn (FR none) 0 P ops (noPanic Q) i K a w → K (a.put oi.dst (a.eval x)) w := by
    intro a w K h
    unfold wpOpIn at h
    simp only [hoi] at h
    have hwn : Region.wanted oi (yielded ops a.tmps) = true := by unfold Region.wanted; rw [hg]
    rw [if_pos hwn] at h
    have h := h.2
    rw [show (FR none).round = none from rfl, Oper.semAt_none] at h
    simp only [execOp, hm, Sem.run_pure, Oper.uponIn] at h
    exact h
  -- something may come up as long as not all has
  have some_ready : ∀ (listed : Array Bool), listed.size = ops.size → (∃ k, k < ops.size ∧ listed.getD k true = false) → Region.ready md (force ops j i) listed ≠ [] := by
    intro listed hsz ⟨k, hk, hkl⟩ h0
    have key : ∀ n k, k < n → k < ops.size → listed.getD k true = false → False := by
      intro n
      induction n with
      | zero => intro k h; omega
      | succ n ih =>
        intro k hkn hk hkl
        have hok : ops[k]? = some ops[k] := Array.getElem?_eq_getElem hk
        have : k ∈ Region.ready md (force ops j i) listed := by
          by_cases hki : k = i
          · subst hki
            refine ready_late_i.2 ⟨mem_ready.2 ⟨hkl, _, hok, fun e he hb => ?_⟩, fun _ => ?_⟩
            · have h1 := htop _ _ hok e he hb
              cases hc : listed.getD e.on false with
              | true => rfl
              | false => exact (ih e.on (by omega) (by omega) (by rw [hlt listed e.on hsz (by omega)]; exact hc)).elim
            · cases hc : listed.getD j false with
              | true => rfl
              | false => exact (ih j (by omega) (by omega) (by rw [hlt listed j hsz (by omega)]; exact hc)).elim
          · refine (ready_late hki).2 (mem_ready.2 ⟨hkl, _, hok, fun e he hb => ?_⟩)
            have h1 := htop _ _ hok e he hb
            cases hc : listed.getD e.on false with
            | true => rfl
            | false => exact (ih e.on (by omega) (by omega) (by rw [hlt listed e.on hsz (by omega)]; exact hc)).elim
        rw [h0] at this; cases this
    exact key (k + 1) k (by omega) hk hkl
  intro fuel
  induction fuel with
  | zero =>
    intro listed hsz hfew
    have hall : ∀ k, k < ops.size → listed.getD k true = true := by
      intro k hk
      cases hc : listed.getD k true with
      | true => rfl
      | false => have := hfew [k] (by simp) (by intro m hm; simp at hm; subst hm; exact ⟨hk, hc⟩); simp at this
    refine ⟨fun hi => ?_, fun hj hi a w f hf => by omega⟩
    rw [hall i hin] at hi; cases hi
  | succ fuel ih =>
    intro listed hsz hfew
    have hB : listed.getD j true = false → i ∈ Region.ready md ops listed → ∀ a w, wpAnyIn (FR none) 0 P md (force ops j i) (noPanic Q) (fuel + 1) listed a w → wpAnyIn (FR none) 0 P md ops (noPanic Q) fuel (listed.setIfInBounds i true) (a.put oi.dst (a.eval x)) w := by
      intro hj hir a w h
      have hiu := (mem_ready.1 hir).1
      have hjn : j < ops.size := by omega
      cases fuel with
      | zero =>
        exfalso
        have := hfew [i, j] (by simp; omega) (by
          intro m hm
          rcases List.mem_cons.1 hm with rfl | hm
          · exact ⟨hin, hiu⟩
          · rcases List.mem_cons.1 hm with rfl | hm
            · exact ⟨hjn, hj⟩
            · cases hm)
        simp at this
      | succ f =>
        have hni : i ∉ Region.ready md (force ops j i) listed := fun hm => by
          have h1 := (ready_late_i.1 hm).2 hbd
          have : j < listed.size := by omega
          simp [this] at h1 hj
          rw [h1] at hj; cases hj
        refine ⟨fun h0 => ?_, fun k hk => ?_⟩
        · exfalso
          obtain ⟨k, hk⟩ := List.exists_mem_of_ne_nil _ (some_ready listed hsz ⟨j, hjn, hj⟩)
          have hki : k ≠ i := fun e => hni (e ▸ hk)
          have := ready_mono (i := i) ((ready_late hki).1 hk) hki
          rw [h0] at this; cases this
        · have hki : k ≠ i := by
            rintro rfl
            have := (mem_ready.1 hk).1
            rw [getD_set_self] at this; cases this
          obtain ⟨hku, o, ho, hall⟩ := mem_ready.1 hk
          rw [getD_set_ne true (Ne.symm hki)] at hku
          have hnd : ∀ e ∈ oi.after, Region.binds md e = true → e.on ≠ k := by
            intro e he hb heq
            obtain ⟨_, o', ho', hall'⟩ := mem_ready.1 hir
            rw [hoi] at ho'; cases ho'
            have h1 := hall' e he hb
            rw [heq] at h1
            have hkn : k < listed.size := by have := (Array.getElem?_eq_some_iff.1 ho).1; omega
            simp [hkn] at h1 hku
            rw [h1] at hku; cases hku
          rcases hap k o ho hki hnd with ⟨_, ⟨e, he, hb, hej⟩⟩ | ⟨hno, hapt⟩
          · exfalso
            have h1 := hall e he hb
            rw [hej, getD_set_ne false (by omega)] at h1
            have : j < listed.size := by omega
            simp [this] at h1 hj
            rw [h1] at hj; cases hj
          · have hkr : k ∈ Region.ready md ops listed := mem_ready.2 ⟨hku, o, ho, fun e he hb => by
              have h1 := hall e he hb
              rwa [getD_set_ne false (fun e' => hno e he hb e'.symm)] at h1⟩
            have h1 := h.2 k ((ready_late hki).2 hkr)
            rw [force_wpOp] at h1
            have hkn : k < ops.size := (Array.getElem?_eq_some_iff.1 ho).1
            obtain ⟨_, _, d3⟩ := Oper.apart_spec hapt
            refine wpOp_put_rev (x := x) (fun d hd hx => ?_) ho hapt (fun cs b => Region.noSelect_spec hsel k o cs b ho) (fun a' w' hex h2 => ?_) h1
            · refine d3 d hd (List.mem_append_left _ (List.mem_filterMap.2 ⟨.tmp d, ?_, rfl⟩))
              rw [hm, hx]; simp [Op.operands]
            · rw [Array.setIfInBounds_comm _ _ (Ne.symm hki)]
              by_cases hkj : k = j
              · subst hkj
                have hir2 : i ∈ Region.ready md (force ops k i) (listed.setIfInBounds k true) := ready_late_i.2 ⟨ready_mono hir (by omega), fun _ => by
                  have : k < listed.size := by omega
                  simp [this]⟩
                have h3 := h2.2 i hir2
                rw [force_wpOp] at h3
                have h4 := hY2 _ _ _ h3
                rw [hex] at h4
                exact late_same f _ _ _ getD_set_self h4
              · have h3 := (ih (listed.setIfInBounds k true) (by simpa using hsz) (hfew.step hkn hku)).2 (by rw [getD_set_ne true hkj]; exact hj) (ready_mono hir (Ne.symm hki)) a' w' f rfl h2
                rw [hex] at h3
                exact h3
    refine ⟨fun hi a w h => ?_, fun hj hir a w f hf h => by
      have : f = fuel := by omega
      subst this
      exact hB hj hir a w h⟩
    refine ⟨fun h0 => ?_, fun k hk => ?_⟩
    · refine h.1 (List.eq_nil_iff_forall_not_mem.2 fun k hk => ?_)
      by_cases hki : k = i
      · subst hki; have := (ready_late_i.1 hk).1; rw [h0] at this; cases this
      · have := (ready_late hki).1 hk; rw [h0] at this; cases this
    · have hku := (mem_ready.1 hk).1
      have hkn : k < ops.size := by obtain ⟨_, o, ho, _⟩ := mem_ready.1 hk; exact (Array.getElem?_eq_some_iff.1 ho).1
      by_cases hki : k = i
      · subst hki
        cases hj : listed.getD j false with
        | true =>
          have h1 := h.2 k (ready_late_i.2 ⟨hk, fun _ => hj⟩)
          rw [force_wpOp] at h1
          exact wpOpIn_mono (fun a w h => late_same fuel _ a w getD_set_self h) h1
        | false => exact hY a w _ (hB (by rw [hlt listed j hsz (by omega)]; exact hj) hk a w h)
      · have h1 := h.2 k ((ready_late hki).2 hk)
        rw [force_wpOp] at h1
        exact wpOpIn_mono (fun a w h => (ih (listed.setIfInBounds k true) (by simpa using hsz) (hfew.step hkn hku)).1 (by rw [getD_set_ne true hki]; exact hi) a w h) h1

/-- A move may wait for an operation that stands ahead of it. -/
theorem r_late {c : Cx} {ops : Array Oper} {Q : Exit → Act → World → Prop} {env : Env} {F : Know} {own : Own} (i j : Nat) (hB : lateB .any ops i j = true)
    (h : R c true (force ops j i) (noPanic Q) 0 env F own) (hro : c.ro = none := by rfl) : R c true ops Q 0 env F own := fun a w hd => by
  have h1 := h a w hd
  simp only [RestOf, force_size, hro] at h1
  simp only [RestOf, hro]
  simp only [lateB, Bool.and_eq_true, decide_eq_true_eq] at hB
  obtain ⟨⟨⟨hsel, hji⟩, hin⟩, hB⟩ := hB
  have hoi : ops[i]? = some ops[i] := Array.getElem?_eq_getElem hin
  simp only [hoi, Bool.and_eq_true] at hB
  obtain ⟨⟨hg, hmv⟩, hall⟩ := hB
  obtain ⟨x, hx⟩ : ∃ x, ops[i].op = .move x := by
    split at hmv
    · rename_i x h; exact ⟨x, h⟩
    · cases hmv
  have hk : ∀ k o, ops[k]? = some o → (∀ e ∈ o.after, Region.binds .any e = true → e.on < k) ∧ (k ≠ i → (∀ e ∈ ops[i].after, Region.binds .any e = true → e.on ≠ k) → (∃ e ∈ o.after, Region.binds .any e = true ∧ e.on = i) ∧ (∃ e ∈ o.after, Region.binds .any e = true ∧ e.on = j) ∨ (∀ e ∈ o.after, Region.binds .any e = true → e.on ≠ i) ∧ ops[i].apart ops o = true) := by
    intro k o ho
    have h2 := List.all_eq_true.1 hall k (List.mem_range.2 (Array.getElem?_eq_some_iff.1 ho).1)
    simp only [ho, Bool.and_eq_true, Bool.or_eq_true, beq_iff_eq] at h2
    obtain ⟨h3, h4⟩ := h2
    refine ⟨fun e he hb => ?_, fun hki hno => ?_⟩
    · have := Array.all_eq_true_iff_forall_mem.1 h3 e he
      simpa [hb] using this
    · rcases h4 with (h4 | h4) | h4
      · exact absurd h4 hki
      · obtain ⟨e, he, hb⟩ := Array.any_eq_true'.1 h4
        simp only [Bool.and_eq_true, beq_iff_eq] at hb
        exact absurd hb.2 (hno e he hb.1)
      · split at h4
        · rename_i h5
          obtain ⟨e, he, hb⟩ := Array.any_eq_true'.1 h5
          obtain ⟨e2, he2, hb2⟩ := Array.any_eq_true'.1 h4
          simp only [Bool.and_eq_true, beq_iff_eq] at hb hb2
          exact .inl ⟨⟨e, he, hb⟩, ⟨e2, he2, hb2⟩⟩
        · rename_i h5
          refine .inr ⟨fun e he hb heq => h5 (Array.any_eq_true'.2 ⟨e, he, by simp [hb, heq]⟩), h4⟩
  refine wpAny_noPanic _ _ _ _ ((wpAny_late (oi := ops[i]) (x := x) hoi hx (by simpa using hg) hji hsel rfl (fun k o ho => (hk k o ho).1) (fun k o ho => (hk k o ho).2) _ _ (lk_size _ _) (few_lk (Nat.le_refl _))).1 ?_ a w h1)
  rw [lk_get true hin]; simp
end
end Go.Eng

/-
  The engine, part 18: calls that hand back blocks to be written; a store into a slice of structs of one's own; an append where there is room.
-/
namespace Go.Eng
open Go

/-- A call that hands back blocks that it made: nobody else has them. -/
def CallsN (P : Program) (f : FuncId) (args : List Value) (w : World) (R : Value → Own → Prop) : Prop :=
  Calls P f args.toArray w fun e w' => ∃ v bs, e = .returned v ∧ Keep [] w w' ∧ (bs.map (·.1)).Nodup ∧ (∀ x ∈ bs, w.heap.size ≤ x.1 ∧ w'.heap[x.1]? = some x.2) ∧ R v bs

section
variable {c : Cx} {env : Env} {F : Know} {own : Own} {Q : Exit → Act → World → Prop}
variable {d : Option Tmp} {ty : TypeId} {ps : String} {af : Array Edge} {g : Option (Nat × Bool)} {l : List Oper} {k : Nat} {draw : Bool}

/-- A call that hands back blocks: they stand last. -/
theorem oNL {x : Operand} {f : FuncId} {us caps : List Value} {args : List Operand} {ts : Array TypeId} {vs : List Value} {t : Tmp} {Rel : Value → Own → Prop} (hB : draw = true → aloneB l.toArray k = true)
    (ho : nthO l k = some ⟨some t, .call { callee := .value x, args := args.toArray, argTypes := ts }, ty, ps, af, g⟩) (hb : HasBody c.P f) (hx : Env.ev env x = some (.func (.func f) us.toArray caps.toArray)) (hv : args.mapM (Env.ev env) = some vs)
    (hd : Nat.blt t c.n = true) (hw : wantedB l.toArray env ⟨some t, .call { callee := .value x, args := args.toArray, argTypes := ts }, ty, ps, af, g⟩)
    (h : ∀ w, Sat c F own w → CallsN c.P f (us ++ vs ++ caps) w Rel) (hn : ∀ v bs, Rel v bs → R c draw l.toArray Q (k + 1) ((t, v) :: env) F (own ++ bs)) : R c draw l.toArray Q k env F own := by
  refine r_call (by rw [← nthO_eq]; exact ho) hB (by simpa using hd) hw hb hx hv fun w hs => (h w hs).mono fun e w' he => ?_
  obtain ⟨v, bs, h1, h2, h3, h4, h5⟩ := he
  exact ⟨v, h1, F, own ++ bs, ((hs.keep' h2).join hs.ownlt hs.knowlt hs.keep.size h3 h4).perm List.perm_append_comm, hn v bs h5⟩

theorem fn_new {P : Program} {f : FuncId} {fn : Func} {code : Code} {args : List Value} {n : Nat} {w : World} {F : Know} {Rel : Value → Own → Prop} (hf : P.funcs[f]? = some fn) (hb : fn.body = some code) (hn : fn.ntmps = n) (hlen : Nat.ble args.length n = true)
    (hF : ∀ a v, F a = some v → w.cell? a = some v)
    (h : T ⟨P, n, w, [], none, []⟩ (mkEnv 0 args) F [] code (bodyQ P fn (fun e w' => ∃ v bs, e = .returned v ∧ Keep [] w w' ∧ (bs.map (·.1)).Nodup ∧ (∀ x ∈ bs, w.heap.size ≤ x.1 ∧ w'.heap[x.1]? = some x.2) ∧ Rel v bs))) : CallsN P f args w Rel :=
  fn_enter hf hb hn (Nat.le_of_ble_eq_true hlen) hF (fun _ _ _ h => by cases h) (by simp) (fun _ h => by cases h) (fun _ h => by cases h) h

theorem end_new {P : Program} {n : Nat} {w w1 : World} {G : Know} {bs : Own} {v : Value} {Rel : Value → Own → Prop} (hs : Sat ⟨P, n, w, [], none, []⟩ G own w1) (hb : bs.Sublist own) (h : Rel v bs) :
    ∃ u bs, Ending.returned v = .returned u ∧ Keep [] w w1 ∧ (bs.map (·.1)).Nodup ∧ (∀ x ∈ bs, w.heap.size ≤ x.1 ∧ w1.heap[x.1]? = some x.2) ∧ Rel u bs :=
  ⟨v, bs, rfl, hs.keep, hs.nodup.sublist (hb.map _), fun x hx => ⟨(hs.ids x (hb.subset hx)).elim (fun h => h) (fun h => by cases h), hs.own x (hb.subset hx)⟩, h⟩

theorem setV_splice : ∀ {off : Nat} {vs l : List Value} (k : List Value → Option (List Value)), off + vs.length ≤ l.length → setV off vs l k = k (splice l off vs)
  | 0, [], l, k, _ => by simp [setV, splice]
  | 0, v :: vs, [], k, h => by simp at h
  | 0, v :: vs, u :: l, k, h => by
    have := setV_splice (off := 0) (vs := vs) (l := l) (fun s => k (v :: s)) (by simp at h ⊢; omega)
    simp only [setV, this, splice]
    simp
  | n + 1, vs, [], k, h => by simp at h
  | n + 1, vs, u :: l, k, h => by
    have := setV_splice (off := n) (vs := vs) (l := l) (fun s => k (u :: s)) (by simp at h; omega)
    simp only [setV, this, splice]
    congr 1
    simp
    rw [show n + 1 + vs.length = (n + vs.length) + 1 by omega, List.drop_succ_cons]

theorem splice_rows {α : Type} {enc : α → List Value} {sz : Nat} (he : ∀ x : α, (enc x).length = sz) {xs : List α} {i : Nat} (hi : i < xs.length) (x : α) (rest : List Value) : splice (rowsV enc xs ++ rest) (i * sz) (enc x) = rowsV enc (xs.set i x) ++ rest := by
  have e1 : xs = xs.take i ++ (xs[i] :: xs.drop (i + 1)) := by rw [← List.drop_eq_getElem_cons hi, List.take_append_drop]
  have e2 : xs.set i x = xs.take i ++ (x :: xs.drop (i + 1)) := List.set_eq_take_append_cons_drop.trans (if_pos hi)
  have l1 : (rowsV enc (xs.take i)).length = i * sz := by rw [rowsV_len he, List.length_take]; congr 1; omega
  have r0 : ∀ (y : α) (r : List α), rowsV enc (y :: r) = enc y ++ rowsV enc r := fun y r => rfl
  rw [e2, rowsV_app, r0]
  conv => lhs; rw [e1, rowsV_app, r0]
  unfold splice
  have l2 : (enc xs[i]).length = sz := he _
  have e3 : (rowsV enc (xs.take i) ++ (enc xs[i] ++ rowsV enc (xs.drop (i + 1))) ++ rest).take (i * sz) = rowsV enc (xs.take i) := by
    rw [List.append_assoc, List.take_left' l1]
  have e4 : (rowsV enc (xs.take i) ++ (enc xs[i] ++ rowsV enc (xs.drop (i + 1))) ++ rest).drop (i * sz + (enc x).length) = rowsV enc (xs.drop (i + 1)) ++ rest := by
    rw [he, ← List.drop_drop, List.append_assoc, List.drop_left' l1, List.append_assoc, List.drop_left' l2]
  rw [e3, e4]
  simp only [List.append_assoc]

/-- An element of a growing slice of structs that is written anew. -/
theorem SlO.store {α : Type} {enc : α → List Value} {sz n cp i : Nat} {e : TypeId} {A : Option Addr} {xs : List α} {b : Own} (hS : SlO e sz (.slice A n cp) n (rowsV enc xs) b) (he : ∀ x : α, (enc x).length = sz) (hn : n = xs.length) (hi : i < xs.length) (x : α) :
    ∃ p cs cs', A = some ⟨p, 0, none⟩ ∧ b = [(p, .cells cs.toArray e (0, 0))] ∧ setV (i * sz) (enc x) cs some = some cs' ∧ SlO e sz (.slice A n cp) n (rowsV enc (xs.set i x)) [(p, .cells cs'.toArray e (0, 0))] := by
  rcases hS.2 with ⟨hv, h0, _⟩ | ⟨p, cap, rest, hv, hb, h2, h3, h4⟩
  · omega
  · cases hv
    have l1 : (rowsV enc xs).length = xs.length * sz := rowsV_len he xs
    have hle : i * sz + (enc x).length ≤ (rowsV enc xs ++ rest).length := by
      rw [he, List.length_append, l1]
      have : (i + 1) * sz ≤ xs.length * sz := Nat.mul_le_mul_right _ hi
      rw [Nat.succ_mul] at this
      omega
    refine ⟨p, _, _, rfl, hb, (setV_splice some hle).trans (by rw [splice_rows he hi]), ⟨by rw [rowsV_len he, List.length_set, hn], .inr ⟨p, cp, rest, rfl, rfl, h2, h3, ?_⟩⟩⟩
    rw [← h4, List.length_append, List.length_append, rowsV_len he, List.length_set, l1]
end
section
variable {c : Cx} {env : Env} {F : Know} {own : Own} {Q : Exit → Act → World → Prop}
variable {ty : TypeId} {ps : String} {af : Array Edge} {g : Option (Nat × Bool)} {l : List Oper} {k : Nat} {draw : Bool}
/-- An append to a slice of one's own that has room. -/
theorem oAppR {s x : Operand} {T e : TypeId} {size bytes : Nat} {pre : Own} {n cap p : Nat} {xs rest : List Value} {A : Option Addr} {m cp : Nat} {news : List Value} {t : Tmp} (hB : draw = true → aloneB l.toArray k = true)
    (ho : nthO l k = some ⟨some t, .call { callee := .builtin .append, args := #[s, x], argTypes := #[T, T] }, ty, ps, af, g⟩) (hT : AppT c.P T e size bytes) (hv : Env.ev env s = some (.slice (some ⟨p, 0, none⟩) n cap)) (hx : Env.ev env x = some (.slice A m cp))
    (hd : Nat.blt t c.n = true) (hw : wantedB l.toArray env ⟨some t, .call { callee := .builtin .append, args := #[s, x], argTypes := #[T, T] }, ty, ps, af, g⟩)
    (hxl : xs.length = n * size) (hcl : (xs ++ rest).length = cap * size) (hl : news.length = m * size) (hm0 : 0 < m) (hnews : ∀ w, Sat c F (pre ++ [(p, .cells (xs ++ rest).toArray e (0, 0))]) w → ∀ j u, news[j]? = some u → ∃ a, A = some a ∧ w.cell? (a.add j) = some u) (h1 : ∀ u ∈ news, u.oneCell' = true)
    (hr : n + m ≤ cap)
    (hn : R c draw l.toArray Q (k + 1) ((t, .slice (some ⟨p, 0, none⟩) (n + m) cap) :: env) F (pre ++ [(p, .cells ((xs ++ news) ++ rest.drop news.length).toArray e (0, 0))])) : R c draw l.toArray Q k env F (pre ++ [(p, .cells (xs ++ rest).toArray e (0, 0))]) := by
  refine r_one (Array.getElem?_eq_some_iff.1 (by rw [← nthO_eq]; exact ho)).1 hB fun a w hh => ?_
  unfold wpOpIn
  have ho' : l.toArray[k]? = some ⟨some t, .call { callee := .builtin .append, args := #[s, x], argTypes := #[T, T] }, ty, ps, af, g⟩ := by rw [← nthO_eq]; exact ho
  simp only [ho', wanted_of hh.env hw, if_true]
  refine ⟨fun _ _ => trivial, ?_⟩
  rw [Oper.semAt_eq _ _ _ (fun _ h => by cases h)]
  have hs := hh.sat
  have hpos := hT.pos
  obtain ⟨i, z, hi, hz, hsz, hby, hzs⟩ := hT.el
  subst hsz; subst hby
  have hg : w.heap[p]? = some (.cells (xs ++ rest).toArray e (0, 0)) := hs.own (p, _) (List.mem_append_right _ List.mem_cons_self)
  obtain ⟨b, rfl⟩ : ∃ b, A = some b := by
    have h0 : 0 < news.length := by rw [hl]; exact Nat.mul_pos hm0 hpos
    obtain ⟨b, hb, _⟩ := hnews w hs 0 news[0] (List.getElem?_eq_getElem h0)
    exact ⟨b, hb⟩
  have hnw : ∀ j u, news[j]? = some u → w.cell? (b.add j) = some u := fun j u hj => by
    obtain ⟨a', ha, h2⟩ := hnews w hs j u hj
    cases ha; exact h2
  have hfit : n * i.size + news.length ≤ (xs ++ rest).toArray.size := by rw [List.size_toArray, hcl, hl, ← Nat.add_mul]; exact Nat.mul_le_mul_right _ hr
  have hrun := run_append_room (P := c.P) w T ty e i hT.ud hi p n cap _ hg b m cp news hl hnw h1 hr hfit
  have e1 : ((xs ++ rest).toArray.toList.take (n * i.size) ++ news ++ (xs ++ rest).toArray.toList.drop (n * i.size + news.length)) = (xs ++ news) ++ rest.drop news.length := by
    show ((xs ++ rest).take (n * i.size) ++ news ++ (xs ++ rest).drop (n * i.size + news.length)) = _
    rw [← hxl, List.take_left, List.drop_append]
    simp
  rw [e1] at hrun
  unfold execOp
  simp only [resolve, invoke, builtin, Sem.run_bind, Sem.run_pure, Result.andThen_ok, List.map_toArray, List.map_cons, List.map_nil, hh.env.eval hv, hh.env.eval hx]
  rw [hrun]
  have h3 : Sat c F (pre ++ ([(p, .cells ((xs ++ news) ++ rest.drop news.length).toArray e (0, 0))] ++ [])) (w.setRow p ((xs ++ news) ++ rest.drop news.length).toArray) := Sat.setRow (post := []) (by simpa using hs)
  exact hn _ _ ⟨hh.env.put' (d := some t) (by simpa using hd) _, by simpa using h3⟩
end
section
variable {c : Cx} {env : Env} {F : Know} {own : Own}
variable {d : Option Tmp} {ty : TypeId} {ps : String} {af : Array Edge} {g : Option (Nat × Bool)}
theorem run_guard_slice {P : Program} {w : World} {op : BinOp} {t : TypeId} {x y : Operand} {A B : Option Addr} {n m k l : Nat} : (eqGuard op t x y (.slice A n m) (.slice B k l)).run P w = .ok () w := by
  cases op <;> simp [eqGuard]
theorem run_equalIn_sliceN {P : Program} (w : World) (d : Nat) (t e : TypeId) (a : Option Addr) (n m k l : Nat) (h : P.underlying t = some (.slice e)) : (Op.equalIn (d + 1) t (.slice a n m) (.slice none k l)).run P w = .ok a.isNone w := by
  cases a <;> simp [Op.equalIn, run_underlying h]
/-- A slice is compared with nil. -/
theorem det_eqlNil {t yt e : TypeId} {sz : Nat} {x y : Operand} {A : Option Addr} {n m k l : Nat} (ht : SliceOf c.P t e sz) (hx : Env.ev env x = some (.slice A n m)) (hy : Env.ev env y = some (.slice none k l)) :
    Det c F own env ⟨d, .binOp .eql t x y yt, ty, ps, af, g⟩ (.bool A.isNone) :=
  det_of fun a ha w _ => by simp [execOp, ha.eval hx, ha.eval hy, run_guard_slice, binOp, Op.equal, Op.maxDepth, run_equalIn_sliceN w 9999 t e A n m k l ht.ud]
theorem det_neqNil {t yt e : TypeId} {sz : Nat} {x y : Operand} {A : Option Addr} {n m k l : Nat} (ht : SliceOf c.P t e sz) (hx : Env.ev env x = some (.slice A n m)) (hy : Env.ev env y = some (.slice none k l)) :
    Det c F own env ⟨d, .binOp .neq t x y yt, ty, ps, af, g⟩ (.bool (!A.isNone)) :=
  det_of fun a ha w _ => by simp [execOp, ha.eval hx, ha.eval hy, run_guard_slice, binOp, Op.equal, Op.maxDepth, run_equalIn_sliceN w 9999 t e A n m k l ht.ud]
end
end Go.Eng

/-
  The engine, part 19: an append of one element to a slice of one's own that is read afterwards as well.
-/
namespace Go.Eng
open Go
section
variable {c : Cx} {env : Env} {F : Know} {own : Own} {Q : Exit → Act → World → Prop}
variable {ty : TypeId} {ps : String} {af : Array Edge} {g : Option (Nat × Bool)} {l : List Oper} {k : Nat}

/-- Values that lie at an address in every world that has these blocks. -/
def Lies (b : Own) (A : Option Addr) (xs : List Value) : Prop :=
  ∀ (c : Cx) (F : Know) (own : Own) (w : World), Sat c F own w → (∀ x ∈ b, x ∈ own) → ∀ j u, xs[j]? = some u → ∃ a, A = some a ∧ w.cell? (a.add j) = some u

theorem lies_cells {p : Nat} {cs rest : List Value} {e : TypeId} {b : Own} (h : (p, Obj.cells (cs ++ rest).toArray e (0, 0)) ∈ b) : Lies b (some ⟨p, 0, none⟩) cs := fun c F own w hs hb j u hj =>
  hs.cellO (hb _ h) (by rw [List.getElem?_append_left (List.getElem?_eq_some_iff.1 hj).1]; exact hj)
theorem SlO.lies {e : TypeId} {size n cp : Nat} {A : Option Addr} {xs : List Value} {b : Own} (h : SlO e size (.slice A n cp) n xs b) : Lies b A xs := by
  rcases h.2 with ⟨_, h0, _⟩ | ⟨p, cap, rest, hv, hb, _⟩
  · have : xs = [] := List.eq_nil_of_length_eq_zero (by rw [h.1, h0, Nat.zero_mul])
    subst this
    exact fun c F own w hs hb j u hj => by simp at hj
  · cases hv
    subst hb
    exact lies_cells List.mem_cons_self
theorem SlO.cap {e : TypeId} {size n cp : Nat} {A : Option Addr} {xs : List Value} {b : Own} (h : SlO e size (.slice A n cp) n xs b) : n ≤ cp ∧ cp ≤ maxLen := by
  rcases h.2 with ⟨hv, h0, _⟩ | ⟨p, cap, rest, hv, hb, h1, h2, _⟩
  · cases hv; exact ⟨Nat.le_refl _, Nat.zero_le _⟩
  · cases hv; exact ⟨h1, h2⟩

theorem oAppB {s x : Operand} {T e : TypeId} {size bytes : Nat} {pre b : Own} {n cp0 : Nat} {xs : List Value} {A0 A : Option Addr} {cp : Nat} {news : List Value} {t : Tmp}
    (ho : nthO l k = some ⟨some t, .call { callee := .builtin .append, args := #[s, x], argTypes := #[T, T] }, ty, ps, af, g⟩) (hT : AppT c.P T e size bytes) (hv : Env.ev env s = some (.slice A0 n cp0)) (hx : Env.ev env x = some (.slice A 1 cp))
    (hd : Nat.blt t c.n = true) (hw : wantedB l.toArray env ⟨some t, .call { callee := .builtin .append, args := #[s, x], argTypes := #[T, T] }, ty, ps, af, g⟩)
    (hn0 : 0 < n) (hS : SlO e size (.slice A0 n cp0) n xs b) (hl : news.length = 1 * size) (hnews : ∀ w, Sat c F (pre ++ b) w → ∀ j u, news[j]? = some u → ∃ a, A = some a ∧ w.cell? (a.add j) = some u) (h1 : ∀ u ∈ news, u.oneCell' = true)
    (hm : (n + 1) * bytes ≤ 140737488355328) (hm2 : n + 1 ≤ maxLen)
    (hn : ∀ A' cp' b', n + 1 ≤ cp' → cp' ≤ maxLen → Lies b' A0 xs → Lies b' A' (xs ++ news) → R c false l.toArray Q (k + 1) ((t, .slice A' (n + 1) cp') :: env) F (pre ++ b')) : R c false l.toArray Q k env F (pre ++ b) := by
  rcases hS.2 with ⟨_, h0, _⟩ | ⟨p, cap, rest, hv0, rfl, h2, h3, h4⟩
  · omega
  · cases hv0
    by_cases hr : n + 1 ≤ cp0
    · refine oAppR (fun h => by cases h) ho hT hv hx hd hw hS.1 h4 hl (by decide) hnews h1 hr ?_
      refine hn _ _ _ hr h3 ?_ ?_
      · exact lies_cells (cs := xs) (rest := news ++ rest.drop news.length) (by rw [List.append_assoc]; exact List.mem_cons_self)
      · exact lies_cells List.mem_cons_self
    · have hc : cp0 = n := by omega
      subst hc
      refine om ho (new_appK (xs := xs) (news := news) (m := 1) hT hv hx hS.1 hl (by decide) (fun w hs => lies_cells List.mem_cons_self _ _ _ _ hs (fun x hx => List.mem_append_right _ hx)) hnews hm hm2) rfl hd hw fun p2 v ob hS2 => ?_
      obtain ⟨A2, c2, rfl, h5, h6, -⟩ := hS2.slice
      have hL := hS2.lies
      refine tk_perm (own' := pre ++ ([(p2, ob)] ++ [(p, .cells (xs ++ rest).toArray e (0, 0))])) ?_ (hn _ _ _ h5 h6 ?_ ?_)
      · have := (List.perm_middle (l₁ := pre) (a := (p2, ob)) (l₂ := [(p, Obj.cells (xs ++ rest).toArray e (0, 0))])).symm
        exact this
      · exact lies_cells (List.mem_cons_of_mem _ List.mem_cons_self)
      · exact fun c F own w hs hb => hL c F own w hs (fun x hx => hb x (by rw [List.mem_singleton] at hx; subst hx; exact List.mem_cons_self))
end
end Go.Eng

/-
  The engine, part 20: a map of one's own, from integers to integers.
-/
namespace Go.Eng
open Go

def getM (ms : List (Int × Int)) (x : Int) : Option Int :=
  match ms with
  | [] => none
  | p :: r => if p.1 = x then some p.2 else getM r x
def setM (ms : List (Int × Int)) (x y : Int) : List (Int × Int) :=
  match ms with
  | [] => [(x, y)]
  | p :: r => if p.1 = x then (x, y) :: r else p :: setM r x y
theorem getM_set (x y z : Int) : ∀ ms, getM (setM ms x y) z = if z = x then some y else getM ms z
  | [] => by
    by_cases h : z = x
    · subst h; simp [setM, getM]
    · simp [setM, getM, h, Ne.symm h]
  | p :: r => by
    have ih := getM_set x y z r
    by_cases h1 : p.1 = x
    · subst h1
      by_cases h : z = p.1
      · subst h; simp [setM, getM]
      · simp [setM, getM, h, Ne.symm h]
    · by_cases h : z = x
      · subst h; simp [setM, getM, h1, ih]
      · by_cases h2 : p.1 = z
        · simp [setM, getM, h1, h2, h]
        · simp [setM, getM, h1, h2, ih, h]
theorem setM_len (x y : Int) : ∀ ms, (setM ms x y).length = ms.length + (if (getM ms x).isNone then 1 else 0)
  | [] => by simp [setM, getM]
  | p :: r => by
    have ih := setM_len x y r
    by_cases h1 : p.1 = x
    · simp [setM, getM, h1]
    · simp [setM, getM, h1, ih]; omega

def kvM (e : MapEntry) : Value × Value := (e.key, e.val)
def kvI (x : Int × Int) : Value × Value := (.int .i64 x.1, .int .i64 x.2)
/-- A block that holds a map. -/
def MpO (p : Nat) (ms : List (Int × Int)) (ob : Obj) : Prop := ∃ es clock, ob = .map es clock ∧ es.toList.map kvM = ms.map kvI

theorem findNow_spec (x : Int) : ∀ (l : List MapEntry) (ms : List (Int × Int)) (i : Nat), l.map kvM = ms.map kvI →
    (getM ms x = none ∧ Instr.findNow (.int .i64) (.int .i64 x) l i = some none ∧ ∀ y, setM ms x y = ms ++ [(x, y)]) ∨
    ∃ v j e, getM ms x = some v ∧ Instr.findNow (.int .i64) (.int .i64 x) l i = some (some (i + j, .int .i64 v)) ∧ l[j]? = some e ∧ e.key = .int .i64 x ∧ ∀ y, (l.modify j fun e => { e with key := .int .i64 x, val := .int .i64 y }).map kvM = (setM ms x y).map kvI
  | [], [], i, _ => .inl ⟨rfl, rfl, fun _ => rfl⟩
  | [], _ :: _, _, h => by simp at h
  | _ :: _, [], _, h => by simp at h
  | e :: l, p :: ms, i, h => by
    simp only [List.map_cons, List.cons.injEq] at h
    obtain ⟨h1, h2⟩ := h
    have hk : e.key = .int .i64 p.1 := congrArg Prod.fst h1
    have hv : e.val = .int .i64 p.2 := congrArg Prod.snd h1
    by_cases hx : p.1 = x
    · refine .inr ⟨p.2, 0, e, by simp [getM, hx], ?_, rfl, by rw [hk, hx], fun y => ?_⟩
      · simp [Instr.findNow, Instr.sameNow, hk, hv, hx]
      · simp [setM, hx, kvM, kvI, h2]
    · have hf : Instr.findNow (.int .i64) (.int .i64 x) (e :: l) i = Instr.findNow (.int .i64) (.int .i64 x) l (i + 1) := by
        have hne : (x == p.1) = false := beq_eq_false_iff_ne.2 fun h => hx h.symm
        simp [Instr.findNow, Instr.sameNow, hk, hne]
      rcases findNow_spec x l ms (i + 1) h2 with ⟨g1, g2, g3⟩ | ⟨v, j, e', g1, g2, g3, g4, g5⟩
      · exact .inl ⟨by simp [getM, hx, g1], by rw [hf, g2], fun y => by simp [setM, hx, g3]⟩
      · refine .inr ⟨v, j + 1, e', by simp [getM, hx, g1], by rw [hf, g2, show i + 1 + j = i + (j + 1) by omega], by simpa using g3, g4, fun y => ?_⟩
        simp only [List.modify_succ_cons, List.map_cons, setM, if_neg hx, g5]
        rw [h1]

/-- What a map type is. -/
structure IMap (P : Program) (t k e : TypeId) : Prop where
  ud : P.underlying t = some (.map k e)
  key : P.underlying k = some (.int .i64)
  zero : ∀ w, (zeroValue e).run P w = .ok (.int .i64 0) w

theorem run_checkInt {P : Program} {w : World} {k : TypeId} (h : P.underlying k = some (.int .i64)) (e : Bool) (x : Int) : (Instr.checkKey e 10000 k (.int .i64 x)).run P w = .ok () w := by
  have key : ∀ n, (Instr.checkKey e (n + 1) k (.int .i64 x)).run P w = .ok () w := fun n => by simp [Instr.checkKey, run_underlying h]
  exact key 9999
theorem run_findInt {P : Program} {w : World} {k : TypeId} (h : P.underlying k = some (.int .i64)) {x : Int} {l : List MapEntry} {r : Option (Nat × Value)} (hf : Instr.findNow (.int .i64) (.int .i64 x) l 0 = some r) : (Instr.findKey k (.int .i64 x) l).run P w = .ok r w := by
  simp [Instr.findKey, run_underlying h, hf]
theorem run_getMap {P : Program} {w : World} {r : Nat} {es : Array MapEntry} {clock : Nat} (hb : w.heap[r]? = some (.map es clock)) : (getObj r).run P w = .ok (.map es clock) w := by
  simp [getObj, Sem.run, hb]
theorem run_setMap {P : Program} {w : World} {r : Nat} {es : Array MapEntry} {clock : Nat} (o : Obj) (hb : w.heap[r]? = some (.map es clock)) : (setObj r o).run P w = .ok () (setBlk w r o) := by
  simp [setObj, Sem.run, hb, setBlk]

section
variable {c : Cx} {env : Env} {F : Know} {own : Own} {Q : Exit → Act → World → Prop}
variable {d : Option Tmp} {ty : TypeId} {ps : String} {af : Array Edge} {g : Option (Nat × Bool)} {l : List Oper} {k : Nat} {draw : Bool}

theorem new_map {t : TypeId} : New c F own env ⟨d, .makeMap t none, ty, ps, af, g⟩ (fun p v ob => v = .map (some p) ∧ MpO p [] ob) :=
  fun a ha w hw => by
    refine ⟨_, _, _, ?_, Grew.alloc w (.map #[] 0), rfl, #[], 0, rfl, rfl⟩
    simp [execOp, Instr.makeMap]

/-- What the map holds, with 'ok'. -/
theorem det_lookup2 {t kt e : TypeId} {m x : Operand} {p : Nat} {ob : Obj} {i : Int} {ms : List (Int × Int)} (ht : IMap c.P t kt e) (hm : Env.ev env m = some (.map (some p))) (hx : Env.ev env x = some (.int .i64 i)) (hmem : (p, ob) ∈ own) (hM : MpO p ms ob) :
    Det c F own env ⟨d, .lookup t m x true, ty, ps, af, g⟩ (.tuple #[.int .i64 ((getM ms i).getD 0), .bool (getM ms i).isSome]) :=
  det_of fun a ha w hs => by
    obtain ⟨es, clock, rfl, he⟩ := hM
    have hb := hs.own _ hmem
    simp only at hb
    rcases findNow_spec i es.toList ms 0 he with ⟨g1, g2, _⟩ | ⟨v, j, e', g1, g2, _⟩
    · simp [execOp, ha.eval hm, ha.eval hx, Instr.lookup, run_underlying ht.ud, run_getMap hb, run_checkInt ht.key, run_findInt ht.key g2, ht.zero, g1]
    · simp [execOp, ha.eval hm, ha.eval hx, Instr.lookup, run_underlying ht.ud, run_getMap hb, run_checkInt ht.key, run_findInt ht.key g2, g1]
theorem det_lookup1 {t kt e : TypeId} {m x : Operand} {p : Nat} {ob : Obj} {i : Int} {ms : List (Int × Int)} (ht : IMap c.P t kt e) (hm : Env.ev env m = some (.map (some p))) (hx : Env.ev env x = some (.int .i64 i)) (hmem : (p, ob) ∈ own) (hM : MpO p ms ob) :
    Det c F own env ⟨d, .lookup t m x false, ty, ps, af, g⟩ (.int .i64 ((getM ms i).getD 0)) :=
  det_of fun a ha w hs => by
    obtain ⟨es, clock, rfl, he⟩ := hM
    have hb := hs.own _ hmem
    simp only at hb
    rcases findNow_spec i es.toList ms 0 he with ⟨g1, g2, _⟩ | ⟨v, j, e', g1, g2, _⟩
    · simp [execOp, ha.eval hm, ha.eval hx, Instr.lookup, run_underlying ht.ud, run_getMap hb, run_checkInt ht.key, run_findInt ht.key g2, ht.zero, g1]
    · simp [execOp, ha.eval hm, ha.eval hx, Instr.lookup, run_underlying ht.ud, run_getMap hb, run_checkInt ht.key, run_findInt ht.key g2, g1]
theorem det_lenM {t kt e : TypeId} {x : Operand} {p : Nat} {ob : Obj} {ms : List (Int × Int)} (ht : IMap c.P t kt e) (hx : Env.ev env x = some (.map (some p))) (hmem : (p, ob) ∈ own) (hM : MpO p ms ob) :
    Det c F own env ⟨d, .call { callee := .builtin .len, args := #[x], argTypes := #[t] }, ty, ps, af, g⟩ (.int .i64 ms.length) :=
  det_of fun a ha w hs => by
    obtain ⟨es, clock, rfl, he⟩ := hM
    have hb := hs.own _ hmem
    simp only at hb
    have hl : es.size = ms.length := by have := congrArg List.length he; simpa using this
    exact run_builtin fun cs => by simp [builtin, Builtin.len_, run_underlying ht.ud, ha.eval hx, goInt, run_getMap hb, hl]

/-- A map is written. -/
theorem oMap {t kt e : TypeId} {m x y : Operand} {p : Nat} {ob : Obj} {i j : Int} {ms : List (Int × Int)} {own2 : Own} (hB : draw = true → aloneB l.toArray k = true) (ho : nthO l k = some ⟨none, .mapUpdate t m x y, ty, ps, af, g⟩) (ht : IMap c.P t kt e) (hm : Env.ev env m = some (.map (some p))) (hx : Env.ev env x = some (.int .i64 i)) (hy : Env.ev env y = some (.int .i64 j))
    (hw : wantedB l.toArray env ⟨none, .mapUpdate t m x y, ty, ps, af, g⟩) (hM : MpO p ms ob) (hp : own.Perm ((p, ob) :: own2))
    (hn : ∀ ob', MpO p (setM ms i j) ob' → R c draw l.toArray Q (k + 1) env F ((p, ob') :: own2)) : R c draw l.toArray Q k env F own := by
  refine tk_perm hp ?_
  refine r_one (Array.getElem?_eq_some_iff.1 (by rw [← nthO_eq]; exact ho)).1 hB fun a w hh => ?_
  unfold wpOpIn
  have ho' : l.toArray[k]? = some ⟨none, .mapUpdate t m x y, ty, ps, af, g⟩ := by rw [← nthO_eq]; exact ho
  simp only [ho', wanted_of hh.env hw, if_true]
  refine ⟨fun _ _ => trivial, ?_⟩
  rw [Oper.semAt_eq _ _ _ (fun _ h => by cases h)]
  obtain ⟨es, clock, rfl, he⟩ := hM
  have hb := hh.sat.own _ List.mem_cons_self
  simp only at hb
  have hrun : ∃ ob', MpO p (setM ms i j) ob' ∧ (Instr.mapUpdate t (.map (some p)) (.int .i64 i) (.int .i64 j)).run c.P w = .ok () (setBlk w p ob') := by
    rcases findNow_spec i es.toList ms 0 he with ⟨g1, g2, g3⟩ | ⟨v, q, e', g1, g2, g3, g4, g5⟩
    · refine ⟨.map (es.push { key := .int .i64 i, val := .int .i64 j, born := clock }) (clock + 1), ⟨_, _, rfl, ?_⟩, ?_⟩
      · rw [Array.toList_push, List.map_append, he, g3, List.map_append]; rfl
      · simp [Instr.mapUpdate, run_underlying ht.ud, run_getMap hb, run_checkInt ht.key, run_findInt ht.key g2, run_setMap _ hb]
    · refine ⟨.map (es.modify q fun e => { e with key := .int .i64 i, val := .int .i64 j }) clock, ⟨_, _, rfl, ?_⟩, ?_⟩
      · rw [Array.toList_modify, g5]
      · have g3' : es[q]? = some e' := by rw [← Array.getElem?_toList]; exact g3
        simp [Instr.mapUpdate, run_underlying ht.ud, run_getMap hb, run_checkInt ht.key, run_findInt ht.key g2, run_setMap _ hb, g3', g4, Instr.keyThatStays, Instr.sameBits]
  obtain ⟨ob', h1, h2⟩ := hrun
  simp only [execOp, hh.env.eval hm, hh.env.eval hx, hh.env.eval hy, Sem.run_bind, h2, Result.andThen_ok, Sem.run_pure, Oper.uponIn]
  exact hn ob' h1 _ _ ⟨hh.env.put' (d := none) rfl undef, hh.sat.upd .head⟩
end
end Go.Eng

/-
  The engine, part 21: a map of one's own from integers to values.
-/
namespace Go.Eng
open Go
def getW (ms : List (Int × Value)) (x : Int) : Option Value :=
  match ms with
  | [] => none
  | p :: r => if p.1 = x then some p.2 else getW r x
def kvW (x : Int × Value) : Value × Value := (.int .i64 x.1, x.2)
/-- A block that holds a map. -/
def MpW (ms : List (Int × Value)) (ob : Obj) : Prop := ∃ es clock, ob = .map es clock ∧ es.toList.map kvM = ms.map kvW

theorem findNow_specW (x : Int) : ∀ (l : List MapEntry) (ms : List (Int × Value)) (i : Nat), l.map kvM = ms.map kvW →
    (getW ms x = none ∧ Instr.findNow (.int .i64) (.int .i64 x) l i = some none) ∨
    ∃ v j, getW ms x = some v ∧ Instr.findNow (.int .i64) (.int .i64 x) l i = some (some (j, v))
  | [], [], i, _ => .inl ⟨rfl, rfl⟩
  | [], _ :: _, _, h => by simp at h
  | _ :: _, [], _, h => by simp at h
  | e :: l, p :: ms, i, h => by
    simp only [List.map_cons, List.cons.injEq] at h
    obtain ⟨h1, h2⟩ := h
    have hk : e.key = .int .i64 p.1 := congrArg Prod.fst h1
    have hv : e.val = p.2 := congrArg Prod.snd h1
    by_cases hx : p.1 = x
    · refine .inr ⟨p.2, i, by simp [getW, hx], ?_⟩
      simp [Instr.findNow, Instr.sameNow, hk, hv, hx]
    · have hf : Instr.findNow (.int .i64) (.int .i64 x) (e :: l) i = Instr.findNow (.int .i64) (.int .i64 x) l (i + 1) := by
        have hne : (x == p.1) = false := beq_eq_false_iff_ne.2 fun h => hx h.symm
        simp [Instr.findNow, Instr.sameNow, hk, hne]
      rcases findNow_specW x l ms (i + 1) h2 with ⟨g1, g2⟩ | ⟨v, j, g1, g2⟩
      · exact .inl ⟨by simp [getW, hx, g1], by rw [hf, g2]⟩
      · exact .inr ⟨v, j, by simp [getW, hx, g1], by rw [hf, g2]⟩

/-- What a map type is. -/
structure WMap (P : Program) (t k e : TypeId) : Prop where
  ud : P.underlying t = some (.map k e)
  key : P.underlying k = some (.int .i64)

section
variable {c : Cx} {env : Env} {F : Know} {own : Own} {Q : Exit → Act → World → Prop}
variable {d : Option Tmp} {ty : TypeId} {ps : String} {af : Array Edge} {g : Option (Nat × Bool)} {l : List Oper} {k : Nat} {draw : Bool}

theorem new_mapW {t : TypeId} : New c F own env ⟨d, .makeMap t none, ty, ps, af, g⟩ (fun p v ob => v = .map (some p) ∧ MpW [] ob) :=
  fun a ha w hw => by
    refine ⟨_, _, _, ?_, Grew.alloc w (.map #[] 0), rfl, #[], 0, rfl, rfl⟩
    simp [execOp, Instr.makeMap]

/-- What the map holds. -/
theorem det_lookupW {t kt e : TypeId} {m x : Operand} {p : Nat} {ob : Obj} {i : Int} {ms : List (Int × Value)} {v : Value} (ht : WMap c.P t kt e) (hm : Env.ev env m = some (.map (some p))) (hx : Env.ev env x = some (.int .i64 i)) (hmem : (p, ob) ∈ own) (hM : MpW ms ob) (hv : getW ms i = some v) :
    Det c F own env ⟨d, .lookup t m x false, ty, ps, af, g⟩ v :=
  det_of fun a ha w hs => by
    obtain ⟨es, clock, rfl, he⟩ := hM
    have hb := hs.own _ hmem
    simp only at hb
    rcases findNow_specW i es.toList ms 0 he with ⟨g1, g2⟩ | ⟨v', j, g1, g2⟩
    · rw [hv] at g1; cases g1
    · rw [hv] at g1; cases g1
      simp [execOp, ha.eval hm, ha.eval hx, Instr.lookup, run_underlying ht.ud, run_getMap hb, run_checkInt ht.key, run_findInt ht.key g2]

/-- A literal of a map: one entry more. -/
theorem oInsert {t kt e : TypeId} {m x y : Operand} {p : Nat} {ob : Obj} {i : Int} {v : Value} {ms : List (Int × Value)} {own2 : Own} (hB : draw = true → aloneB l.toArray k = true) (ho : nthO l k = some ⟨none, .insert t m x y, ty, ps, af, g⟩) (ht : WMap c.P t kt e) (hm : Env.ev env m = some (.map (some p))) (hx : Env.ev env x = some (.int .i64 i)) (hy : Env.ev env y = some v)
    (hw : wantedB l.toArray env ⟨none, .insert t m x y, ty, ps, af, g⟩) (hM : MpW ms ob) (hp : own.Perm ((p, ob) :: own2)) (hf : getW ms i = none)
    (hn : ∀ ob', MpW (ms ++ [(i, v)]) ob' → R c draw l.toArray Q (k + 1) env F ((p, ob') :: own2)) : R c draw l.toArray Q k env F own := by
  refine tk_perm hp ?_
  refine r_one (Array.getElem?_eq_some_iff.1 (by rw [← nthO_eq]; exact ho)).1 hB fun a w hh => ?_
  unfold wpOpIn
  have ho' : l.toArray[k]? = some ⟨none, .insert t m x y, ty, ps, af, g⟩ := by rw [← nthO_eq]; exact ho
  simp only [ho', wanted_of hh.env hw, if_true]
  refine ⟨fun _ _ => trivial, ?_⟩
  rw [Oper.semAt_eq _ _ _ (fun _ h => by cases h)]
  obtain ⟨es, clock, rfl, he⟩ := hM
  have hb := hh.sat.own _ List.mem_cons_self
  simp only at hb
  have hrun : ∃ ob', MpW (ms ++ [(i, v)]) ob' ∧ (Instr.mapUpdate t (.map (some p)) (.int .i64 i) v).run c.P w = .ok () (setBlk w p ob') := by
    rcases findNow_specW i es.toList ms 0 he with ⟨g1, g2⟩ | ⟨v', j, g1, g2⟩
    · refine ⟨.map (es.push { key := .int .i64 i, val := v, born := clock }) (clock + 1), ⟨_, _, rfl, ?_⟩, ?_⟩
      · rw [Array.toList_push, List.map_append, he, List.map_append]; rfl
      · simp [Instr.mapUpdate, run_underlying ht.ud, run_getMap hb, run_checkInt ht.key, run_findInt ht.key g2, run_setMap _ hb]
    · rw [hf] at g1; cases g1
  obtain ⟨ob', h1, h2⟩ := hrun
  simp only [execOp, hh.env.eval hm, hh.env.eval hx, hh.env.eval hy, Sem.run_bind, h2, Result.andThen_ok, Sem.run_pure, Oper.uponIn]
  exact hn ob' h1 _ _ ⟨hh.env.put' (d := none) rfl undef, hh.sat.upd .head⟩
end
end Go.Eng

/-
  The engine, part 22: a map of one's own that holds 'true' for some integers.
-/
namespace Go.Eng
open Go
/-- The entries of a set. -/
def setE2 (fs : List Int) : List (Int × Value) := fs.map fun f => (f, .bool true)
theorem getW_set (fs : List Int) (x : Int) : getW (setE2 fs) x = if x ∈ fs then some (.bool true) else none := by
  induction fs with
  | nil => rfl
  | cons y r ih =>
    show (if y = x then some (Value.bool true) else getW (setE2 r) x) = _
    rw [ih]
    by_cases h : y = x
    · subst h; simp
    · simp [h, Ne.symm h]
theorem setE2_app (fs : List Int) (x : Int) : setE2 (fs ++ [x]) = setE2 fs ++ [(x, .bool true)] := by simp [setE2]
/-- What a map type with truth values is. -/
structure BMap (P : Program) (t k e : TypeId) : Prop where
  w : WMap P t k e
  zero : ∀ w, (zeroValue e).run P w = .ok (.bool false) w

section
variable {c : Cx} {env : Env} {F : Know} {own : Own} {Q : Exit → Act → World → Prop}
variable {d : Option Tmp} {ty : TypeId} {ps : String} {af : Array Edge} {g : Option (Nat × Bool)} {l : List Oper} {k : Nat} {draw : Bool}

/-- Whether the set holds it. -/
theorem det_lookupT {t kt e : TypeId} {m x : Operand} {p : Nat} {ob : Obj} {i : Int} {fs : List Int} (ht : BMap c.P t kt e) (hm : Env.ev env m = some (.map (some p))) (hx : Env.ev env x = some (.int .i64 i)) (hmem : (p, ob) ∈ own) (hM : MpW (setE2 fs) ob) :
    Det c F own env ⟨d, .lookup t m x false, ty, ps, af, g⟩ (.bool (decide (i ∈ fs))) :=
  det_of fun a ha w hs => by
    obtain ⟨es, clock, rfl, he⟩ := hM
    have hb := hs.own _ hmem
    simp only at hb
    rcases findNow_specW i es.toList _ 0 he with ⟨g1, g2⟩ | ⟨v', j, g1, g2⟩
    · have hn : i ∉ fs := fun h => by rw [getW_set, if_pos h] at g1; cases g1
      simp [execOp, ha.eval hm, ha.eval hx, Instr.lookup, run_underlying ht.w.ud, run_getMap hb, run_checkInt ht.w.key, run_findInt ht.w.key g2, ht.zero, hn]
    · have hn : i ∈ fs := Classical.byContradiction fun h => by rw [getW_set, if_neg h] at g1; cases g1
      rw [getW_set, if_pos hn] at g1; cases g1
      simp [execOp, ha.eval hm, ha.eval hx, Instr.lookup, run_underlying ht.w.ud, run_getMap hb, run_checkInt ht.w.key, run_findInt ht.w.key g2, hn]

/-- One more. -/
theorem oMapT {t kt e : TypeId} {m x y : Operand} {p : Nat} {ob : Obj} {i : Int} {fs : List Int} {own2 : Own} (hB : draw = true → aloneB l.toArray k = true) (ho : nthO l k = some ⟨none, .mapUpdate t m x y, ty, ps, af, g⟩) (ht : BMap c.P t kt e) (hm : Env.ev env m = some (.map (some p))) (hx : Env.ev env x = some (.int .i64 i)) (hy : Env.ev env y = some (.bool true))
    (hw : wantedB l.toArray env ⟨none, .mapUpdate t m x y, ty, ps, af, g⟩) (hM : MpW (setE2 fs) ob) (hp : own.Perm ((p, ob) :: own2)) (hf : i ∉ fs)
    (hn : ∀ ob', MpW (setE2 (fs ++ [i])) ob' → R c draw l.toArray Q (k + 1) env F ((p, ob') :: own2)) : R c draw l.toArray Q k env F own := by
  refine tk_perm hp ?_
  refine r_one (Array.getElem?_eq_some_iff.1 (by rw [← nthO_eq]; exact ho)).1 hB fun a w hh => ?_
  unfold wpOpIn
  have ho' : l.toArray[k]? = some ⟨none, .mapUpdate t m x y, ty, ps, af, g⟩ := by rw [← nthO_eq]; exact ho
  simp only [ho', wanted_of hh.env hw, if_true]
  refine ⟨fun _ _ => trivial, ?_⟩
  rw [Oper.semAt_eq _ _ _ (fun _ h => by cases h)]
  obtain ⟨es, clock, rfl, he⟩ := hM
  have hb := hh.sat.own _ List.mem_cons_self
  simp only at hb
  have hrun : ∃ ob', MpW (setE2 (fs ++ [i])) ob' ∧ (Instr.mapUpdate t (.map (some p)) (.int .i64 i) (.bool true)).run c.P w = .ok () (setBlk w p ob') := by
    rcases findNow_specW i es.toList _ 0 he with ⟨g1, g2⟩ | ⟨v', j, g1, g2⟩
    · refine ⟨.map (es.push { key := .int .i64 i, val := .bool true, born := clock }) (clock + 1), ⟨_, _, rfl, ?_⟩, ?_⟩
      · rw [Array.toList_push, List.map_append, he, setE2_app, List.map_append]; rfl
      · simp [Instr.mapUpdate, run_underlying ht.w.ud, run_getMap hb, run_checkInt ht.w.key, run_findInt ht.w.key g2, run_setMap _ hb]
    · rw [getW_set, if_neg hf] at g1; cases g1
  obtain ⟨ob', h1, h2⟩ := hrun
  simp only [execOp, hh.env.eval hm, hh.env.eval hx, hh.env.eval hy, Sem.run_bind, h2, Result.andThen_ok, Sem.run_pure, Oper.uponIn]
  exact hn ob' h1 _ _ ⟨hh.env.put' (d := none) rfl undef, hh.sat.upd .head⟩
end
end Go.Eng
