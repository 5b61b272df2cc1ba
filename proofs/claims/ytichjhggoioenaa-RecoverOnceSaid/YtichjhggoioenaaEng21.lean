/-
  The engine, part 21: a map of one's own from integers to values.
-/
import Derived.Test.YtichjhggoioenaaEng20
namespace Go.Eng
open Go
def getW (ms : List (Int × Value)) (x : Int) : Option Value :=
  match ms with
  | [] => none
  | p :: r => if p.1 = x then some p.2 else getW r x
def kvW (x : Int × Value) : Value × Value := (.int .i64 x.1, x.2)
/-- A block that holds a map. -/
def MpW (ms : List (Int × Value)) (ob : Obj) : Prop := ∃ es clock, ob = .map es clock ∧ es.toList.map kvM = ms.map kvW

theorem findNow_specW (x : Int) : ∀ (l : List MapEntry) (ms : List (Int × Value)) (i : Nat), l.map kvM = ms.map kvW →
    (getW ms x = none ∧ Instr.findNow (.int .i64) (.int .i64 x) l i = some none) ∨
    ∃ v j, getW ms x = some v ∧ Instr.findNow (.int .i64) (.int .i64 x) l i = some (some (j, v))
  | [], [], i, _ => .inl ⟨rfl, rfl⟩
  | [], _ :: _, _, h => by simp at h
  | _ :: _, [], _, h => by simp at h
  | e :: l, p :: ms, i, h => by
    simp only [List.map_cons, List.cons.injEq] at h
    obtain ⟨h1, h2⟩ := h
    have hk : e.key = .int .i64 p.1 := congrArg Prod.fst h1
    have hv : e.val = p.2 := congrArg Prod.snd h1
    by_cases hx : p.1 = x
    · refine .inr ⟨p.2, i, by simp [getW, hx], ?_⟩
      simp [Instr.findNow, Instr.sameNow, hk, hv, hx]
    · have hf : Instr.findNow (.int .i64) (.int .i64 x) (e :: l) i = Instr.findNow (.int .i64) (.int .i64 x) l (i + 1) := by
        have hne : (x == p.1) = false := beq_eq_false_iff_ne.2 fun h => hx h.symm
        simp [Instr.findNow, Instr.sameNow, hk, hne]
      rcases findNow_specW x l ms (i + 1) h2 with ⟨g1, g2⟩ | ⟨v, j, g1, g2⟩
      · exact .inl ⟨by simp [getW, hx, g1], by rw [hf, g2]⟩
      · exact .inr ⟨v, j, by simp [getW, hx, g1], by rw [hf, g2]⟩

/-- What a map type is. -/
structure WMap (P : Program) (t k e : TypeId) : Prop where
  ud : P.underlying t = some (.map k e)
  key : P.underlying k = some (.int .i64)

section
variable {c : Cx} {env : Env} {F : Know} {own : Own} {Q : Exit → Act → World → Prop}
variable {d : Option Tmp} {ty : TypeId} {ps : String} {af : Array Edge} {g : Option (Nat × Bool)} {l : List Oper} {k : Nat} {draw : Bool}

theorem new_mapW {t : TypeId} : New c F own env ⟨d, .makeMap t none, ty, ps, af, g⟩ (fun p v ob => v = .map (some p) ∧ MpW [] ob) :=
  fun a ha w hw => by
    refine ⟨_, _, _, ?_, Grew.alloc w (.map #[] 0), rfl, #[], 0, rfl, rfl⟩
    simp [execOp, Instr.makeMap]

/-- What the map holds. -/
theorem det_lookupW {t kt e : TypeId} {m x : Operand} {p : Nat} {ob : Obj} {i : Int} {ms : List (Int × Value)} {v : Value} (ht : WMap c.P t kt e) (hm : Env.ev env m = some (.map (some p))) (hx : Env.ev env x = some (.int .i64 i)) (hmem : (p, ob) ∈ own) (hM : MpW ms ob) (hv : getW ms i = some v) :
    Det c F own env ⟨d, .lookup t m x false, ty, ps, af, g⟩ v :=
  det_of fun a ha w hs => by
    obtain ⟨es, clock, rfl, he⟩ := hM
    have hb := hs.own _ hmem
    simp only at hb
    rcases findNow_specW i es.toList ms 0 he with ⟨g1, g2⟩ | ⟨v', j, g1, g2⟩
    · rw [hv] at g1; cases g1
    · rw [hv] at g1; cases g1
      simp [execOp, ha.eval hm, ha.eval hx, Instr.lookup, run_underlying ht.ud, run_getMap hb, run_checkInt ht.key, run_findInt ht.key g2]

/-- A literal of a map: one entry more. -/
theorem oInsert {t kt e : TypeId} {m x y : Operand} {p : Nat} {ob : Obj} {i : Int} {v : Value} {ms : List (Int × Value)} {own2 : Own} (hB : draw = true → aloneB l.toArray k = true) (ho : nthO l k = some ⟨none, .insert t m x y, ty, ps, af, g⟩) (ht : WMap c.P t kt e) (hm : Env.ev env m = some (.map (some p))) (hx : Env.ev env x = some (.int .i64 i)) (hy : Env.ev env y = some v)
    (hw : wantedB l.toArray env ⟨none, .insert t m x y, ty, ps, af, g⟩) (hM : MpW ms ob) (hp : own.Perm ((p, ob) :: own2)) (hf : getW ms i = none)
    (hn : ∀ ob', MpW (ms ++ [(i, v)]) ob' → R c draw l.toArray Q (k + 1) env F ((p, ob') :: own2)) : R c draw l.toArray Q k env F own := by
  refine tk_perm hp ?_
  refine r_one (Array.getElem?_eq_some_iff.1 (by rw [← nthO_eq]; exact ho)).1 hB fun a w hh => ?_
  unfold wpOpIn
  have ho' : l.toArray[k]? = some ⟨none, .insert t m x y, ty, ps, af, g⟩ := by rw [← nthO_eq]; exact ho
  simp only [ho', wanted_of hh.env hw, if_true]
  refine ⟨fun _ _ => trivial, ?_⟩
  rw [Oper.semAt_eq _ _ _ (fun _ h => by cases h)]
  obtain ⟨es, clock, rfl, he⟩ := hM
  have hb := hh.sat.own _ List.mem_cons_self
  simp only at hb
  have hrun : ∃ ob', MpW (ms ++ [(i, v)]) ob' ∧ (Instr.mapUpdate t (.map (some p)) (.int .i64 i) v).run c.P w = .ok () (setBlk w p ob') := by
    rcases findNow_specW i es.toList ms 0 he with ⟨g1, g2⟩ | ⟨v', j, g1, g2⟩
    · refine ⟨.map (es.push { key := .int .i64 i, val := v, born := clock }) (clock + 1), ⟨_, _, rfl, ?_⟩, ?_⟩
      · rw [Array.toList_push, List.map_append, he, List.map_append]; rfl
      · simp [Instr.mapUpdate, run_underlying ht.ud, run_getMap hb, run_checkInt ht.key, run_findInt ht.key g2, run_setMap _ hb]
    · rw [hf] at g1; cases g1
  obtain ⟨ob', h1, h2⟩ := hrun
  simp only [execOp, hh.env.eval hm, hh.env.eval hx, hh.env.eval hy, Sem.run_bind, h2, Result.andThen_ok, Sem.run_pure, Oper.uponIn]
  exact hn ob' h1 _ _ ⟨hh.env.put' (d := none) rfl undef, hh.sat.upd .head⟩
end
end Go.Eng
