/-
  The engine, part 22: a map of one's own that holds 'true' for some integers.
-/
import Derived.Test.YtichjhggoioenaaEng21
namespace Go.Eng
open Go
/-- The entries of a set. -/
def setE2 (fs : List Int) : List (Int × Value) := fs.map fun f => (f, .bool true)
theorem getW_set (fs : List Int) (x : Int) : getW (setE2 fs) x = if x ∈ fs then some (.bool true) else none := by
  induction fs with
  | nil => rfl
  | cons y r ih =>
    show (if y = x then some (Value.bool true) else getW (setE2 r) x) = _
    rw [ih]
    by_cases h : y = x
    · subst h; simp
    · simp [h, Ne.symm h]
theorem setE2_app (fs : List Int) (x : Int) : setE2 (fs ++ [x]) = setE2 fs ++ [(x, .bool true)] := by simp [setE2]
/-- What a map type with truth values is. -/
structure BMap (P : Program) (t k e : TypeId) : Prop where
  w : WMap P t k e
  zero : ∀ w, (zeroValue e).run P w = .ok (.bool false) w

section
variable {c : Cx} {env : Env} {F : Know} {own : Own} {Q : Exit → Act → World → Prop}
variable {d : Option Tmp} {ty : TypeId} {ps : String} {af : Array Edge} {g : Option (Nat × Bool)} {l : List Oper} {k : Nat} {draw : Bool}

/-- Whether the set holds it. -/
theorem det_lookupT {t kt e : TypeId} {m x : Operand} {p : Nat} {ob : Obj} {i : Int} {fs : List Int} (ht : BMap c.P t kt e) (hm : Env.ev env m = some (.map (some p))) (hx : Env.ev env x = some (.int .i64 i)) (hmem : (p, ob) ∈ own) (hM : MpW (setE2 fs) ob) :
    Det c F own env ⟨d, .lookup t m x false, ty, ps, af, g⟩ (.bool (decide (i ∈ fs))) :=
  det_of fun a ha w hs => by
    obtain ⟨es, clock, rfl, he⟩ := hM
    have hb := hs.own _ hmem
    simp only at hb
    rcases findNow_specW i es.toList _ 0 he with ⟨g1, g2⟩ | ⟨v', j, g1, g2⟩
    · have hn : i ∉ fs := fun h => by rw [getW_set, if_pos h] at g1; cases g1
      simp [execOp, ha.eval hm, ha.eval hx, Instr.lookup, run_underlying ht.w.ud, run_getMap hb, run_checkInt ht.w.key, run_findInt ht.w.key g2, ht.zero, hn]
    · have hn : i ∈ fs := Classical.byContradiction fun h => by rw [getW_set, if_neg h] at g1; cases g1
      rw [getW_set, if_pos hn] at g1; cases g1
      simp [execOp, ha.eval hm, ha.eval hx, Instr.lookup, run_underlying ht.w.ud, run_getMap hb, run_checkInt ht.w.key, run_findInt ht.w.key g2, hn]

/-- One more. -/
theorem oMapT {t kt e : TypeId} {m x y : Operand} {p : Nat} {ob : Obj} {i : Int} {fs : List Int} {own2 : Own} (hB : draw = true → aloneB l.toArray k = true) (ho : nthO l k = some ⟨none, .mapUpdate t m x y, ty, ps, af, g⟩) (ht : BMap c.P t kt e) (hm : Env.ev env m = some (.map (some p))) (hx : Env.ev env x = some (.int .i64 i)) (hy : Env.ev env y = some (.bool true))
    (hw : wantedB l.toArray env ⟨none, .mapUpdate t m x y, ty, ps, af, g⟩) (hM : MpW (setE2 fs) ob) (hp : own.Perm ((p, ob) :: own2)) (hf : i ∉ fs)
    (hn : ∀ ob', MpW (setE2 (fs ++ [i])) ob' → R c draw l.toArray Q (k + 1) env F ((p, ob') :: own2)) : R c draw l.toArray Q k env F own := by
  refine tk_perm hp ?_
  refine r_one (Array.getElem?_eq_some_iff.1 (by rw [← nthO_eq]; exact ho)).1 hB fun a w hh => ?_
  unfold wpOpIn
  have ho' : l.toArray[k]? = some ⟨none, .mapUpdate t m x y, ty, ps, af, g⟩ := by rw [← nthO_eq]; exact ho
  simp only [ho', wanted_of hh.env hw, if_true]
  refine ⟨fun _ _ => trivial, ?_⟩
  rw [Oper.semAt_eq _ _ _ (fun _ h => by cases h)]
  obtain ⟨es, clock, rfl, he⟩ := hM
  have hb := hh.sat.own _ List.mem_cons_self
  simp only at hb
  have hrun : ∃ ob', MpW (setE2 (fs ++ [i])) ob' ∧ (Instr.mapUpdate t (.map (some p)) (.int .i64 i) (.bool true)).run c.P w = .ok () (setBlk w p ob') := by
    rcases findNow_specW i es.toList _ 0 he with ⟨g1, g2⟩ | ⟨v', j, g1, g2⟩
    · refine ⟨.map (es.push { key := .int .i64 i, val := .bool true, born := clock }) (clock + 1), ⟨_, _, rfl, ?_⟩, ?_⟩
      · rw [Array.toList_push, List.map_append, he, setE2_app, List.map_append]; rfl
      · simp [Instr.mapUpdate, run_underlying ht.w.ud, run_getMap hb, run_checkInt ht.w.key, run_findInt ht.w.key g2, run_setMap _ hb]
    · rw [getW_set, if_neg hf] at g1; cases g1
  obtain ⟨ob', h1, h2⟩ := hrun
  simp only [execOp, hh.env.eval hm, hh.env.eval hx, hh.env.eval hy, Sem.run_bind, h2, Result.andThen_ok, Sem.run_pure, Oper.uponIn]
  exact hn ob' h1 _ _ ⟨hh.env.put' (d := none) rfl undef, hh.sat.upd .head⟩
end
end Go.Eng
