/-
  The engine, part 18: calls that hand back blocks to be written; a store into a slice of structs of one's own; an append where there is room.
-/
import Derived.Test.YtichjhggoioenaaEng17
namespace Go.Eng
open Go

/-- A call that hands back blocks that it made: nobody else has them. -/
def CallsN (P : Program) (f : FuncId) (args : List Value) (w : World) (R : Value → Own → Prop) : Prop :=
  Calls P f args.toArray w fun e w' => ∃ v bs, e = .returned v ∧ Keep [] w w' ∧ (bs.map (·.1)).Nodup ∧ (∀ x ∈ bs, w.heap.size ≤ x.1 ∧ w'.heap[x.1]? = some x.2) ∧ R v bs

section
variable {c : Cx} {env : Env} {F : Know} {own : Own} {Q : Exit → Act → World → Prop}
variable {d : Option Tmp} {ty : TypeId} {ps : String} {af : Array Edge} {g : Option (Nat × Bool)} {l : List Oper} {k : Nat} {draw : Bool}

/-- A call that hands back blocks: they stand last. -/
theorem oNL {x : Operand} {f : FuncId} {us caps : List Value} {args : List Operand} {ts : Array TypeId} {vs : List Value} {t : Tmp} {Rel : Value → Own → Prop} (hB : draw = true → aloneB l.toArray k = true)
    (ho : nthO l k = some ⟨some t, .call { callee := .value x, args := args.toArray, argTypes := ts }, ty, ps, af, g⟩) (hb : HasBody c.P f) (hx : Env.ev env x = some (.func (.func f) us.toArray caps.toArray)) (hv : args.mapM (Env.ev env) = some vs)
    (hd : Nat.blt t c.n = true) (hw : wantedB l.toArray env ⟨some t, .call { callee := .value x, args := args.toArray, argTypes := ts }, ty, ps, af, g⟩)
    (h : ∀ w, Sat c F own w → CallsN c.P f (us ++ vs ++ caps) w Rel) (hn : ∀ v bs, Rel v bs → R c draw l.toArray Q (k + 1) ((t, v) :: env) F (own ++ bs)) : R c draw l.toArray Q k env F own := by
  refine r_call (by rw [← nthO_eq]; exact ho) hB (by simpa using hd) hw hb hx hv fun w hs => (h w hs).mono fun e w' he => ?_
  obtain ⟨v, bs, h1, h2, h3, h4, h5⟩ := he
  exact ⟨v, h1, F, own ++ bs, ((hs.keep' h2).join hs.ownlt hs.knowlt hs.keep.size h3 h4).perm List.perm_append_comm, hn v bs h5⟩

theorem fn_new {P : Program} {f : FuncId} {fn : Func} {code : Code} {args : List Value} {n : Nat} {w : World} {F : Know} {Rel : Value → Own → Prop} (hf : P.funcs[f]? = some fn) (hb : fn.body = some code) (hn : fn.ntmps = n) (hlen : Nat.ble args.length n = true)
    (hF : ∀ a v, F a = some v → w.cell? a = some v)
    (h : T ⟨P, n, w, [], none, []⟩ (mkEnv 0 args) F [] code (bodyQ P fn (fun e w' => ∃ v bs, e = .returned v ∧ Keep [] w w' ∧ (bs.map (·.1)).Nodup ∧ (∀ x ∈ bs, w.heap.size ≤ x.1 ∧ w'.heap[x.1]? = some x.2) ∧ Rel v bs))) : CallsN P f args w Rel :=
  fn_enter hf hb hn (Nat.le_of_ble_eq_true hlen) hF (fun _ _ _ h => by cases h) (by simp) (fun _ h => by cases h) (fun _ h => by cases h) h

theorem end_new {P : Program} {n : Nat} {w w1 : World} {G : Know} {bs : Own} {v : Value} {Rel : Value → Own → Prop} (hs : Sat ⟨P, n, w, [], none, []⟩ G own w1) (hb : bs.Sublist own) (h : Rel v bs) :
    ∃ u bs, Ending.returned v = .returned u ∧ Keep [] w w1 ∧ (bs.map (·.1)).Nodup ∧ (∀ x ∈ bs, w.heap.size ≤ x.1 ∧ w1.heap[x.1]? = some x.2) ∧ Rel u bs :=
  ⟨v, bs, rfl, hs.keep, hs.nodup.sublist (hb.map _), fun x hx => ⟨(hs.ids x (hb.subset hx)).elim (fun h => h) (fun h => by cases h), hs.own x (hb.subset hx)⟩, h⟩

theorem setV_splice : ∀ {off : Nat} {vs l : List Value} (k : List Value → Option (List Value)), off + vs.length ≤ l.length → setV off vs l k = k (splice l off vs)
  | 0, [], l, k, _ => by simp [setV, splice]
  | 0, v :: vs, [], k, h => by simp at h
  | 0, v :: vs, u :: l, k, h => by
    have := setV_splice (off := 0) (vs := vs) (l := l) (fun s => k (v :: s)) (by simp at h ⊢; omega)
    simp only [setV, this, splice]
    simp
  | n + 1, vs, [], k, h => by simp at h
  | n + 1, vs, u :: l, k, h => by
    have := setV_splice (off := n) (vs := vs) (l := l) (fun s => k (u :: s)) (by simp at h; omega)
    simp only [setV, this, splice]
    congr 1
    simp
    rw [show n + 1 + vs.length = (n + vs.length) + 1 by omega, List.drop_succ_cons]

theorem splice_rows {α : Type} {enc : α → List Value} {sz : Nat} (he : ∀ x : α, (enc x).length = sz) {xs : List α} {i : Nat} (hi : i < xs.length) (x : α) (rest : List Value) : splice (rowsV enc xs ++ rest) (i * sz) (enc x) = rowsV enc (xs.set i x) ++ rest := by
  have e1 : xs = xs.take i ++ (xs[i] :: xs.drop (i + 1)) := by rw [← List.drop_eq_getElem_cons hi, List.take_append_drop]
  have e2 : xs.set i x = xs.take i ++ (x :: xs.drop (i + 1)) := List.set_eq_take_append_cons_drop.trans (if_pos hi)
  have l1 : (rowsV enc (xs.take i)).length = i * sz := by rw [rowsV_len he, List.length_take]; congr 1; omega
  have r0 : ∀ (y : α) (r : List α), rowsV enc (y :: r) = enc y ++ rowsV enc r := fun y r => rfl
  rw [e2, rowsV_app, r0]
  conv => lhs; rw [e1, rowsV_app, r0]
  unfold splice
  have l2 : (enc xs[i]).length = sz := he _
  have e3 : (rowsV enc (xs.take i) ++ (enc xs[i] ++ rowsV enc (xs.drop (i + 1))) ++ rest).take (i * sz) = rowsV enc (xs.take i) := by
    rw [List.append_assoc, List.take_left' l1]
  have e4 : (rowsV enc (xs.take i) ++ (enc xs[i] ++ rowsV enc (xs.drop (i + 1))) ++ rest).drop (i * sz + (enc x).length) = rowsV enc (xs.drop (i + 1)) ++ rest := by
    rw [he, ← List.drop_drop, List.append_assoc, List.drop_left' l1, List.append_assoc, List.drop_left' l2]
  rw [e3, e4]
  simp only [List.append_assoc]

/-- An element of a growing slice of structs that is written anew. -/
theorem SlO.store {α : Type} {enc : α → List Value} {sz n cp i : Nat} {e : TypeId} {A : Option Addr} {xs : List α} {b : Own} (hS : SlO e sz (.slice A n cp) n (rowsV enc xs) b) (he : ∀ x : α, (enc x).length = sz) (hn : n = xs.length) (hi : i < xs.length) (x : α) :
    ∃ p cs cs', A = some ⟨p, 0, none⟩ ∧ b = [(p, .cells cs.toArray e (0, 0))] ∧ setV (i * sz) (enc x) cs some = some cs' ∧ SlO e sz (.slice A n cp) n (rowsV enc (xs.set i x)) [(p, .cells cs'.toArray e (0, 0))] := by
  rcases hS.2 with ⟨hv, h0, _⟩ | ⟨p, cap, rest, hv, hb, h2, h3, h4⟩
  · omega
  · cases hv
    have l1 : (rowsV enc xs).length = xs.length * sz := rowsV_len he xs
    have hle : i * sz + (enc x).length ≤ (rowsV enc xs ++ rest).length := by
      rw [he, List.length_append, l1]
      have : (i + 1) * sz ≤ xs.length * sz := Nat.mul_le_mul_right _ hi
      rw [Nat.succ_mul] at this
      omega
    refine ⟨p, _, _, rfl, hb, (setV_splice some hle).trans (by rw [splice_rows he hi]), ⟨by rw [rowsV_len he, List.length_set, hn], .inr ⟨p, cp, rest, rfl, rfl, h2, h3, ?_⟩⟩⟩
    rw [← h4, List.length_append, List.length_append, rowsV_len he, List.length_set, l1]
end
section
variable {c : Cx} {env : Env} {F : Know} {own : Own} {Q : Exit → Act → World → Prop}
variable {ty : TypeId} {ps : String} {af : Array Edge} {g : Option (Nat × Bool)} {l : List Oper} {k : Nat} {draw : Bool}
/-- An append to a slice of one's own that has room. -/
theorem oAppR {s x : Operand} {T e : TypeId} {size bytes : Nat} {pre : Own} {n cap p : Nat} {xs rest : List Value} {A : Option Addr} {m cp : Nat} {news : List Value} {t : Tmp} (hB : draw = true → aloneB l.toArray k = true)
    (ho : nthO l k = some ⟨some t, .call { callee := .builtin .append, args := #[s, x], argTypes := #[T, T] }, ty, ps, af, g⟩) (hT : AppT c.P T e size bytes) (hv : Env.ev env s = some (.slice (some ⟨p, 0, none⟩) n cap)) (hx : Env.ev env x = some (.slice A m cp))
    (hd : Nat.blt t c.n = true) (hw : wantedB l.toArray env ⟨some t, .call { callee := .builtin .append, args := #[s, x], argTypes := #[T, T] }, ty, ps, af, g⟩)
    (hxl : xs.length = n * size) (hcl : (xs ++ rest).length = cap * size) (hl : news.length = m * size) (hm0 : 0 < m) (hnews : ∀ w, Sat c F (pre ++ [(p, .cells (xs ++ rest).toArray e (0, 0))]) w → ∀ j u, news[j]? = some u → ∃ a, A = some a ∧ w.cell? (a.add j) = some u) (h1 : ∀ u ∈ news, u.oneCell' = true)
    (hr : n + m ≤ cap)
    (hn : R c draw l.toArray Q (k + 1) ((t, .slice (some ⟨p, 0, none⟩) (n + m) cap) :: env) F (pre ++ [(p, .cells ((xs ++ news) ++ rest.drop news.length).toArray e (0, 0))])) : R c draw l.toArray Q k env F (pre ++ [(p, .cells (xs ++ rest).toArray e (0, 0))]) := by
  refine r_one (Array.getElem?_eq_some_iff.1 (by rw [← nthO_eq]; exact ho)).1 hB fun a w hh => ?_
  unfold wpOpIn
  have ho' : l.toArray[k]? = some ⟨some t, .call { callee := .builtin .append, args := #[s, x], argTypes := #[T, T] }, ty, ps, af, g⟩ := by rw [← nthO_eq]; exact ho
  simp only [ho', wanted_of hh.env hw, if_true]
  refine ⟨fun _ _ => trivial, ?_⟩
  rw [Oper.semAt_eq _ _ _ (fun _ h => by cases h)]
  have hs := hh.sat
  have hpos := hT.pos
  obtain ⟨i, z, hi, hz, hsz, hby, hzs⟩ := hT.el
  subst hsz; subst hby
  have hg : w.heap[p]? = some (.cells (xs ++ rest).toArray e (0, 0)) := hs.own (p, _) (List.mem_append_right _ List.mem_cons_self)
  obtain ⟨b, rfl⟩ : ∃ b, A = some b := by
    have h0 : 0 < news.length := by rw [hl]; exact Nat.mul_pos hm0 hpos
    obtain ⟨b, hb, _⟩ := hnews w hs 0 news[0] (List.getElem?_eq_getElem h0)
    exact ⟨b, hb⟩
  have hnw : ∀ j u, news[j]? = some u → w.cell? (b.add j) = some u := fun j u hj => by
    obtain ⟨a', ha, h2⟩ := hnews w hs j u hj
    cases ha; exact h2
  have hfit : n * i.size + news.length ≤ (xs ++ rest).toArray.size := by rw [List.size_toArray, hcl, hl, ← Nat.add_mul]; exact Nat.mul_le_mul_right _ hr
  have hrun := run_append_room (P := c.P) w T ty e i hT.ud hi p n cap _ hg b m cp news hl hnw h1 hr hfit
  have e1 : ((xs ++ rest).toArray.toList.take (n * i.size) ++ news ++ (xs ++ rest).toArray.toList.drop (n * i.size + news.length)) = (xs ++ news) ++ rest.drop news.length := by
    show ((xs ++ rest).take (n * i.size) ++ news ++ (xs ++ rest).drop (n * i.size + news.length)) = _
    rw [← hxl, List.take_left, List.drop_append]
    simp
  rw [e1] at hrun
  unfold execOp
  simp only [resolve, invoke, builtin, Sem.run_bind, Sem.run_pure, Result.andThen_ok, List.map_toArray, List.map_cons, List.map_nil, hh.env.eval hv, hh.env.eval hx]
  rw [hrun]
  have h3 : Sat c F (pre ++ ([(p, .cells ((xs ++ news) ++ rest.drop news.length).toArray e (0, 0))] ++ [])) (w.setRow p ((xs ++ news) ++ rest.drop news.length).toArray) := Sat.setRow (post := []) (by simpa using hs)
  exact hn _ _ ⟨hh.env.put' (d := some t) (by simpa using hd) _, by simpa using h3⟩
end
section
variable {c : Cx} {env : Env} {F : Know} {own : Own}
variable {d : Option Tmp} {ty : TypeId} {ps : String} {af : Array Edge} {g : Option (Nat × Bool)}
theorem run_guard_slice {P : Program} {w : World} {op : BinOp} {t : TypeId} {x y : Operand} {A B : Option Addr} {n m k l : Nat} : (eqGuard op t x y (.slice A n m) (.slice B k l)).run P w = .ok () w := by
  cases op <;> simp [eqGuard]
theorem run_equalIn_sliceN {P : Program} (w : World) (d : Nat) (t e : TypeId) (a : Option Addr) (n m k l : Nat) (h : P.underlying t = some (.slice e)) : (Op.equalIn (d + 1) t (.slice a n m) (.slice none k l)).run P w = .ok a.isNone w := by
  cases a <;> simp [Op.equalIn, run_underlying h]
/-- A slice is compared with nil. -/
theorem det_eqlNil {t yt e : TypeId} {sz : Nat} {x y : Operand} {A : Option Addr} {n m k l : Nat} (ht : SliceOf c.P t e sz) (hx : Env.ev env x = some (.slice A n m)) (hy : Env.ev env y = some (.slice none k l)) :
    Det c F own env ⟨d, .binOp .eql t x y yt, ty, ps, af, g⟩ (.bool A.isNone) :=
  det_of fun a ha w _ => by simp [execOp, ha.eval hx, ha.eval hy, run_guard_slice, binOp, Op.equal, Op.maxDepth, run_equalIn_sliceN w 9999 t e A n m k l ht.ud]
theorem det_neqNil {t yt e : TypeId} {sz : Nat} {x y : Operand} {A : Option Addr} {n m k l : Nat} (ht : SliceOf c.P t e sz) (hx : Env.ev env x = some (.slice A n m)) (hy : Env.ev env y = some (.slice none k l)) :
    Det c F own env ⟨d, .binOp .neq t x y yt, ty, ps, af, g⟩ (.bool (!A.isNone)) :=
  det_of fun a ha w _ => by simp [execOp, ha.eval hx, ha.eval hy, run_guard_slice, binOp, Op.equal, Op.maxDepth, run_equalIn_sliceN w 9999 t e A n m k l ht.ud]
end
end Go.Eng
