/-
  The engine, part 20: a map of one's own, from integers to integers.
-/
import Derived.Test.YtichjhggoioenaaEng19
namespace Go.Eng
open Go

def getM (ms : List (Int × Int)) (x : Int) : Option Int :=
  match ms with
  | [] => none
  | p :: r => if p.1 = x then some p.2 else getM r x
def setM (ms : List (Int × Int)) (x y : Int) : List (Int × Int) :=
  match ms with
  | [] => [(x, y)]
  | p :: r => if p.1 = x then (x, y) :: r else p :: setM r x y
theorem getM_set (x y z : Int) : ∀ ms, getM (setM ms x y) z = if z = x then some y else getM ms z
  | [] => by
    by_cases h : z = x
    · subst h; simp [setM, getM]
    · simp [setM, getM, h, Ne.symm h]
  | p :: r => by
    have ih := getM_set x y z r
    by_cases h1 : p.1 = x
    · subst h1
      by_cases h : z = p.1
      · subst h; simp [setM, getM]
      · simp [setM, getM, h, Ne.symm h]
    · by_cases h : z = x
      · subst h; simp [setM, getM, h1, ih]
      · by_cases h2 : p.1 = z
        · simp [setM, getM, h1, h2, h]
        · simp [setM, getM, h1, h2, ih, h]
theorem setM_len (x y : Int) : ∀ ms, (setM ms x y).length = ms.length + (if (getM ms x).isNone then 1 else 0)
  | [] => by simp [setM, getM]
  | p :: r => by
    have ih := setM_len x y r
    by_cases h1 : p.1 = x
    · simp [setM, getM, h1]
    · simp [setM, getM, h1, ih]; omega

def kvM (e : MapEntry) : Value × Value := (e.key, e.val)
def kvI (x : Int × Int) : Value × Value := (.int .i64 x.1, .int .i64 x.2)
/-- A block that holds a map. -/
def MpO (p : Nat) (ms : List (Int × Int)) (ob : Obj) : Prop := ∃ es clock, ob = .map es clock ∧ es.toList.map kvM = ms.map kvI

theorem findNow_spec (x : Int) : ∀ (l : List MapEntry) (ms : List (Int × Int)) (i : Nat), l.map kvM = ms.map kvI →
    (getM ms x = none ∧ Instr.findNow (.int .i64) (.int .i64 x) l i = some none ∧ ∀ y, setM ms x y = ms ++ [(x, y)]) ∨
    ∃ v j e, getM ms x = some v ∧ Instr.findNow (.int .i64) (.int .i64 x) l i = some (some (i + j, .int .i64 v)) ∧ l[j]? = some e ∧ e.key = .int .i64 x ∧ ∀ y, (l.modify j fun e => { e with key := .int .i64 x, val := .int .i64 y }).map kvM = (setM ms x y).map kvI
  | [], [], i, _ => .inl ⟨rfl, rfl, fun _ => rfl⟩
  | [], _ :: _, _, h => by simp at h
  | _ :: _, [], _, h => by simp at h
  | e :: l, p :: ms, i, h => by
    simp only [List.map_cons, List.cons.injEq] at h
    obtain ⟨h1, h2⟩ := h
    have hk : e.key = .int .i64 p.1 := congrArg Prod.fst h1
    have hv : e.val = .int .i64 p.2 := congrArg Prod.snd h1
    by_cases hx : p.1 = x
    · refine .inr ⟨p.2, 0, e, by simp [getM, hx], ?_, rfl, by rw [hk, hx], fun y => ?_⟩
      · simp [Instr.findNow, Instr.sameNow, hk, hv, hx]
      · simp [setM, hx, kvM, kvI, h2]
    · have hf : Instr.findNow (.int .i64) (.int .i64 x) (e :: l) i = Instr.findNow (.int .i64) (.int .i64 x) l (i + 1) := by
        have hne : (x == p.1) = false := beq_eq_false_iff_ne.2 fun h => hx h.symm
        simp [Instr.findNow, Instr.sameNow, hk, hne]
      rcases findNow_spec x l ms (i + 1) h2 with ⟨g1, g2, g3⟩ | ⟨v, j, e', g1, g2, g3, g4, g5⟩
      · exact .inl ⟨by simp [getM, hx, g1], by rw [hf, g2], fun y => by simp [setM, hx, g3]⟩
      · refine .inr ⟨v, j + 1, e', by simp [getM, hx, g1], by rw [hf, g2, show i + 1 + j = i + (j + 1) by omega], by simpa using g3, g4, fun y => ?_⟩
        simp only [List.modify_succ_cons, List.map_cons, setM, if_neg hx, g5]
        rw [h1]

/-- What a map type is. -/
structure IMap (P : Program) (t k e : TypeId) : Prop where
  ud : P.underlying t = some (.map k e)
  key : P.underlying k = some (.int .i64)
  zero : ∀ w, (zeroValue e).run P w = .ok (.int .i64 0) w

theorem run_checkInt {P : Program} {w : World} {k : TypeId} (h : P.underlying k = some (.int .i64)) (e : Bool) (x : Int) : (Instr.checkKey e 10000 k (.int .i64 x)).run P w = .ok () w := by
  have key : ∀ n, (Instr.checkKey e (n + 1) k (.int .i64 x)).run P w = .ok () w := fun n => by simp [Instr.checkKey, run_underlying h]
  exact key 9999
theorem run_findInt {P : Program} {w : World} {k : TypeId} (h : P.underlying k = some (.int .i64)) {x : Int} {l : List MapEntry} {r : Option (Nat × Value)} (hf : Instr.findNow (.int .i64) (.int .i64 x) l 0 = some r) : (Instr.findKey k (.int .i64 x) l).run P w = .ok r w := by
  simp [Instr.findKey, run_underlying h, hf]
theorem run_getMap {P : Program} {w : World} {r : Nat} {es : Array MapEntry} {clock : Nat} (hb : w.heap[r]? = some (.map es clock)) : (getObj r).run P w = .ok (.map es clock) w := by
  simp [getObj, Sem.run, hb]
theorem run_setMap {P : Program} {w : World} {r : Nat} {es : Array MapEntry} {clock : Nat} (o : Obj) (hb : w.heap[r]? = some (.map es clock)) : (setObj r o).run P w = .ok () (setBlk w r o) := by
  simp [setObj, Sem.run, hb, setBlk]

section
variable {c : Cx} {env : Env} {F : Know} {own : Own} {Q : Exit → Act → World → Prop}
variable {d : Option Tmp} {ty : TypeId} {ps : String} {af : Array Edge} {g : Option (Nat × Bool)} {l : List Oper} {k : Nat} {draw : Bool}

theorem new_map {t : TypeId} : New c F own env ⟨d, .makeMap t none, ty, ps, af, g⟩ (fun p v ob => v = .map (some p) ∧ MpO p [] ob) :=
  fun a ha w hw => by
    refine ⟨_, _, _, ?_, Grew.alloc w (.map #[] 0), rfl, #[], 0, rfl, rfl⟩
    simp [execOp, Instr.makeMap]

/-- What the map holds, with 'ok'. -/
theorem det_lookup2 {t kt e : TypeId} {m x : Operand} {p : Nat} {ob : Obj} {i : Int} {ms : List (Int × Int)} (ht : IMap c.P t kt e) (hm : Env.ev env m = some (.map (some p))) (hx : Env.ev env x = some (.int .i64 i)) (hmem : (p, ob) ∈ own) (hM : MpO p ms ob) :
    Det c F own env ⟨d, .lookup t m x true, ty, ps, af, g⟩ (.tuple #[.int .i64 ((getM ms i).getD 0), .bool (getM ms i).isSome]) :=
  det_of fun a ha w hs => by
    obtain ⟨es, clock, rfl, he⟩ := hM
    have hb := hs.own _ hmem
    simp only at hb
    rcases findNow_spec i es.toList ms 0 he with ⟨g1, g2, _⟩ | ⟨v, j, e', g1, g2, _⟩
    · simp [execOp, ha.eval hm, ha.eval hx, Instr.lookup, run_underlying ht.ud, run_getMap hb, run_checkInt ht.key, run_findInt ht.key g2, ht.zero, g1]
    · simp [execOp, ha.eval hm, ha.eval hx, Instr.lookup, run_underlying ht.ud, run_getMap hb, run_checkInt ht.key, run_findInt ht.key g2, g1]
theorem det_lookup1 {t kt e : TypeId} {m x : Operand} {p : Nat} {ob : Obj} {i : Int} {ms : List (Int × Int)} (ht : IMap c.P t kt e) (hm : Env.ev env m = some (.map (some p))) (hx : Env.ev env x = some (.int .i64 i)) (hmem : (p, ob) ∈ own) (hM : MpO p ms ob) :
    Det c F own env ⟨d, .lookup t m x false, ty, ps, af, g⟩ (.int .i64 ((getM ms i).getD 0)) :=
  det_of fun a ha w hs => by
    obtain ⟨es, clock, rfl, he⟩ := hM
    have hb := hs.own _ hmem
    simp only at hb
    rcases findNow_spec i es.toList ms 0 he with ⟨g1, g2, _⟩ | ⟨v, j, e', g1, g2, _⟩
    · simp [execOp, ha.eval hm, ha.eval hx, Instr.lookup, run_underlying ht.ud, run_getMap hb, run_checkInt ht.key, run_findInt ht.key g2, ht.zero, g1]
    · simp [execOp, ha.eval hm, ha.eval hx, Instr.lookup, run_underlying ht.ud, run_getMap hb, run_checkInt ht.key, run_findInt ht.key g2, g1]
theorem det_lenM {t kt e : TypeId} {x : Operand} {p : Nat} {ob : Obj} {ms : List (Int × Int)} (ht : IMap c.P t kt e) (hx : Env.ev env x = some (.map (some p))) (hmem : (p, ob) ∈ own) (hM : MpO p ms ob) :
    Det c F own env ⟨d, .call { callee := .builtin .len, args := #[x], argTypes := #[t] }, ty, ps, af, g⟩ (.int .i64 ms.length) :=
  det_of fun a ha w hs => by
    obtain ⟨es, clock, rfl, he⟩ := hM
    have hb := hs.own _ hmem
    simp only at hb
    have hl : es.size = ms.length := by have := congrArg List.length he; simpa using this
    exact run_builtin fun cs => by simp [builtin, Builtin.len_, run_underlying ht.ud, ha.eval hx, goInt, run_getMap hb, hl]

/-- A map is written. -/
theorem oMap {t kt e : TypeId} {m x y : Operand} {p : Nat} {ob : Obj} {i j : Int} {ms : List (Int × Int)} {own2 : Own} (hB : draw = true → aloneB l.toArray k = true) (ho : nthO l k = some ⟨none, .mapUpdate t m x y, ty, ps, af, g⟩) (ht : IMap c.P t kt e) (hm : Env.ev env m = some (.map (some p))) (hx : Env.ev env x = some (.int .i64 i)) (hy : Env.ev env y = some (.int .i64 j))
    (hw : wantedB l.toArray env ⟨none, .mapUpdate t m x y, ty, ps, af, g⟩) (hM : MpO p ms ob) (hp : own.Perm ((p, ob) :: own2))
    (hn : ∀ ob', MpO p (setM ms i j) ob' → R c draw l.toArray Q (k + 1) env F ((p, ob') :: own2)) : R c draw l.toArray Q k env F own := by
  refine tk_perm hp ?_
  refine r_one (Array.getElem?_eq_some_iff.1 (by rw [← nthO_eq]; exact ho)).1 hB fun a w hh => ?_
  unfold wpOpIn
  have ho' : l.toArray[k]? = some ⟨none, .mapUpdate t m x y, ty, ps, af, g⟩ := by rw [← nthO_eq]; exact ho
  simp only [ho', wanted_of hh.env hw, if_true]
  refine ⟨fun _ _ => trivial, ?_⟩
  rw [Oper.semAt_eq _ _ _ (fun _ h => by cases h)]
  obtain ⟨es, clock, rfl, he⟩ := hM
  have hb := hh.sat.own _ List.mem_cons_self
  simp only at hb
  have hrun : ∃ ob', MpO p (setM ms i j) ob' ∧ (Instr.mapUpdate t (.map (some p)) (.int .i64 i) (.int .i64 j)).run c.P w = .ok () (setBlk w p ob') := by
    rcases findNow_spec i es.toList ms 0 he with ⟨g1, g2, g3⟩ | ⟨v, q, e', g1, g2, g3, g4, g5⟩
    · refine ⟨.map (es.push { key := .int .i64 i, val := .int .i64 j, born := clock }) (clock + 1), ⟨_, _, rfl, ?_⟩, ?_⟩
      · rw [Array.toList_push, List.map_append, he, g3, List.map_append]; rfl
      · simp [Instr.mapUpdate, run_underlying ht.ud, run_getMap hb, run_checkInt ht.key, run_findInt ht.key g2, run_setMap _ hb]
    · refine ⟨.map (es.modify q fun e => { e with key := .int .i64 i, val := .int .i64 j }) clock, ⟨_, _, rfl, ?_⟩, ?_⟩
      · rw [Array.toList_modify, g5]
      · have g3' : es[q]? = some e' := by rw [← Array.getElem?_toList]; exact g3
        simp [Instr.mapUpdate, run_underlying ht.ud, run_getMap hb, run_checkInt ht.key, run_findInt ht.key g2, run_setMap _ hb, g3', g4, Instr.keyThatStays, Instr.sameBits]
  obtain ⟨ob', h1, h2⟩ := hrun
  simp only [execOp, hh.env.eval hm, hh.env.eval hx, hh.env.eval hy, Sem.run_bind, h2, Result.andThen_ok, Sem.run_pure, Oper.uponIn]
  exact hn ob' h1 _ _ ⟨hh.env.put' (d := none) rfl undef, hh.sat.upd .head⟩
end
end Go.Eng
