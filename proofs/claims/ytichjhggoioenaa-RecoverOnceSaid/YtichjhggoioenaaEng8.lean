/-
  The engine, part 8: slices of one's own that grow.
-/
import Derived.Test.YtichjhggoioenaaEng7
import Derived.Laws.AppendOwn
import Derived.Laws.MakeOwn
namespace Go.Eng
open Go

/-- The slice v of n elements, with the cells xs, lies at the head of the blocks b (none, or one). -/
def SlO (e : TypeId) (size : Nat) (v : Value) (n : Nat) (xs : List Value) (b : Own) : Prop :=
  xs.length = n * size ∧ ((v = .slice none 0 0 ∧ n = 0 ∧ b = []) ∨
    ∃ p cap rest, v = .slice (some ⟨p, 0, none⟩) n cap ∧ b = [(p, .cells (xs ++ rest).toArray e (0, 0))] ∧ n ≤ cap ∧ cap ≤ maxLen ∧ (xs ++ rest).length = cap * size)

/-- What an append asks of its slice type. -/
structure AppT (P : Program) (t e : TypeId) (size bytes : Nat) : Prop where
  ud : P.underlying t = some (.slice e)
  el : ∃ (i : TypeInfo) (z : Value), P.info? e = some i ∧ i.zero = some z ∧ i.size = size ∧ i.bytes = bytes ∧ z.cells.size = size
  pos : 0 < size

theorem SlO.nil (e : TypeId) (size : Nat) : SlO e size (.slice none 0 0) 0 [] [] := ⟨by simp, .inl ⟨rfl, rfl, rfl⟩⟩
theorem SlO.lit {e : TypeId} {size p n : Nat} {xs : List Value} (h : xs.length = n * size) (hm : n ≤ maxLen) : SlO e size (.slice (some ⟨p, 0, none⟩) n n) n xs [(p, .cells xs.toArray e (0, 0))] :=
  ⟨h, .inr ⟨p, n, [], rfl, by simp, Nat.le_refl _, hm, by simpa using h⟩⟩
theorem SlO.slice {e : TypeId} {size n : Nat} {v : Value} {xs : List Value} {b : Own} (h : SlO e size v n xs b) : ∃ A cap, v = .slice A n cap ∧ n ≤ cap ∧ cap ≤ maxLen ∧ (0 < n → ∃ a, A = some a ∧ a.off = 0 ∧ a.spot = none) := by
  rcases h.2 with ⟨rfl, rfl, _⟩ | ⟨p, cap, rest, rfl, _, h1, h2, _⟩
  · exact ⟨none, 0, rfl, Nat.le_refl _, Nat.zero_le _, fun h => absurd h (Nat.lt_irrefl _)⟩
  · exact ⟨_, cap, rfl, h1, h2, fun _ => ⟨_, rfl, rfl, rfl⟩⟩

section
variable {c : Cx} {env : Env} {F : Know} {own : Own} {Q : Exit → Act → World → Prop}
variable {ty : TypeId} {ps : String} {af : Array Edge} {g : Option (Nat × Bool)} {l : List Oper} {k : Nat} {draw : Bool}

theorem Sat.drewn {w : World} (h : Sat c F own w) : Sat c F own w.drew :=
  ⟨⟨h.keep.os, h.keep.tape, h.keep.output, h.keep.size, fun b hb hs => h.keep.old b hb hs⟩, h.know, h.away, h.nodup, h.ids, h.own⟩

theorem Sat.addN {w : World} (h : Sat c F own w) (o : Obj) : Sat c F ((w.heap.size, o) :: own) (w.alloc o) := by
  have hlt : ∀ x ∈ own, x.1 < w.heap.size := fun x hx => heap_lt (h.own x hx)
  refine ⟨h.keep.trans (Keep.alloc _ _ _), fun a v ha => ?_, fun a v ha hm => ?_, ?_, fun x hx => ?_, fun x hx => ?_⟩
  · exact (Keep.alloc [] w o).cell (h.know a v ha) (by simp)
  · have hc := h.know a v ha
    have hb : a.block < w.heap.size := World.block_lt_of_cell? w a hc
    rcases List.mem_cons.1 hm with e | hm
    · simp only at e; omega
    · exact h.away a v ha hm
  · rw [List.map_cons, List.nodup_cons]
    refine ⟨fun hm => ?_, h.nodup⟩
    obtain ⟨x, hx, e⟩ := List.mem_map.1 hm
    have := hlt x hx
    simp only at e; omega
  · rcases List.mem_cons.1 hx with rfl | hx
    · exact .inl h.keep.size
    · exact h.ids x hx
  · rcases List.mem_cons.1 hx with rfl | hx
    · exact heap_alloc_new w o
    · exact (Keep.alloc [] w o).block (h.own x hx) (by simp)

theorem Sat.sub {own' : Own} {w : World} (h : Sat c F own w) (hs : own'.Sublist own) : Sat c F own' w :=
  ⟨h.keep, h.know, fun a v ha hm => h.away a v ha ((hs.map _).subset hm), (hs.map _).nodup h.nodup, fun x hx => h.ids x (hs.subset hx), fun x hx => h.own x (hs.subset hx)⟩

theorem Sat.setRow {pre post : Own} {p : Nat} {cs cs' : Array Value} {e : TypeId} {w : World} (h : Sat c F (pre ++ ([(p, .cells cs e (0, 0))] ++ post)) w) : Sat c F (pre ++ ([(p, .cells cs' e (0, 0))] ++ post)) (w.setRow p cs') := by
  have hu : Upd p (.cells cs e (0, 0)) (.cells cs' e (0, 0)) (pre ++ ([(p, .cells cs e (0, 0))] ++ post)) (pre ++ ([(p, .cells cs' e (0, 0))] ++ post)) := .app .head
  have h2 := h.upd hu
  have hp := h.own _ hu.mem
  simp only at hp
  have e1 : w.setRow p cs' = setBlk w p (.cells cs' e (0, 0)) := by
    have hlt := heap_lt hp
    unfold World.setRow setBlk
    congr 1
    apply Array.ext_getElem?
    intro j
    rw [Array.getElem?_modify, Array.getElem?_setIfInBounds]
    by_cases hj : p = j
    · subst hj
      rw [if_pos rfl, if_pos rfl, if_pos hlt, hp]; rfl
    · rw [if_neg hj, if_neg hj]
  rw [e1]; exact h2

/-- An append to a slice of one's own. -/
theorem run_append_sl {P : Program} {t e : TypeId} {size bytes : Nat} (hT : AppT P t e size bytes) {c : Cx} {F : Know} {pre b post : Own} {v : Value} {n : Nat} {xs : List Value} (hS : SlO e size v n xs b)
    {A : Option Addr} {m cp : Nat} {news : List Value} (hl : news.length = m * size) {w : World} (hs : Sat c F (pre ++ (b ++ post)) w) (hnews : ∀ j u, news[j]? = some u → ∃ a, A = some a ∧ w.cell? (a.add j) = some u) (h1 : ∀ u ∈ news, u.oneCell' = true)
    (hm : (n + m) * bytes ≤ 140737488355328) (hm2 : n + m ≤ maxLen) (ty : TypeId) :
    ∃ v' w' b', (Builtin.append_ #[t, t] ty #[v, .slice A m cp]).run P w = .ok v' w' ∧ SlO e size v' (n + m) (xs ++ news) b' ∧ Sat c F (pre ++ (b' ++ post)) w' := by
  obtain ⟨i, z, hi, hz, hsz, hby, hzs⟩ := hT.el
  subst hsz; subst hby
  have hlen : (xs ++ news).length = (n + m) * i.size := by rw [List.length_append, hS.1, hl, Nat.add_mul]
  have hsmall : n + m ≤ 9223372036854775807 := by simp only [maxLen] at hm2; omega
  have hpos := hT.pos
  have grown : ∀ (old : Nat), ∃ b', SlO e i.size (.slice (some ⟨w.heap.size, 0, none⟩) (n + m) (grownCap w (n + m) old e)) (n + m) (xs ++ news) b' ∧
      Sat c F (pre ++ (b' ++ post)) (w.drew.alloc (.cells (xs.toArray ++ news.toArray ++ Builtin.zeroCells z.cells (grownCap w (n + m) old e - (n + m))) e)) := by
    intro old
    have hge := grownCap_ge w (n + m) old e
    have hcm := grownCap_le_maxLen w (n + m) old e hm2
    refine ⟨[(w.heap.size, .cells (xs.toArray ++ news.toArray ++ Builtin.zeroCells z.cells (grownCap w (n + m) old e - (n + m))) e)], ⟨hlen, .inr ⟨_, _, (Builtin.zeroCells z.cells (grownCap w (n + m) old e - (n + m))).toList, rfl, ?_, hge, hcm, ?_⟩⟩, ?_⟩
    · simp
    · rw [List.length_append, hlen, Array.length_toList, size_zeroCells, hzs, ← Nat.add_mul]
      congr 1; omega
    · have hd : Sat c F (pre ++ post) w.drew := hs.drewn.sub ((List.Sublist.refl _).append (List.sublist_append_right _ _))
      have ha := hd.addN (.cells (xs.toArray ++ news.toArray ++ Builtin.zeroCells z.cells (grownCap w (n + m) old e - (n + m))) e)
      refine ha.perm ?_
      simpa using (List.perm_middle (a := (w.heap.size, Obj.cells (xs.toArray ++ news.toArray ++ Builtin.zeroCells z.cells (grownCap w (n + m) old e - (n + m))) e)) (l₁ := pre) (l₂ := post)).symm
  by_cases hm0 : m = 0
  · subst hm0
    have hn : news = [] := List.eq_nil_of_length_eq_zero (by simpa using hl)
    subst hn
    refine ⟨v, w, b, ?_, by simpa using hS, hs⟩
    have hl0 : (Builtin.lenOf (.slice A 0 cp)).run P w = .ok 0 w := by simp [Builtin.lenOf]
    have hf : (Builtin.firstCells i.size 0 (.slice A 0 cp)).run P w = .ok #[] w := by
      cases A with
      | none => simp [Builtin.firstCells]
      | some a => simp [Builtin.firstCells, loadCells, loadCellsFrom]
    rcases hS.2 with ⟨rfl, rfl, _⟩ | ⟨p, cap, rest, rfl, rfl, h2, h3, h4⟩
    · simp [Builtin.append_, run_underlying hT.ud, sizeOf, typeInfo, hi, hl0, hf]
    · have hle : n + 0 ≤ cap := by omega
      simp [Builtin.append_, run_underlying hT.ud, sizeOf, typeInfo, hi, hl0, hf, h2, Addr.add_lit, storeCells]
  · obtain ⟨a, rfl⟩ : ∃ a, A = some a := by
      have h0 : 0 < news.length := by rw [hl]; exact Nat.mul_pos (by omega) hpos
      obtain ⟨a, ha, _⟩ := hnews 0 news[0] (List.getElem?_eq_getElem h0)
      exact ⟨a, ha⟩
    have hnw : ∀ j u, news[j]? = some u → w.cell? (a.add j) = some u := fun j u hj => by
      obtain ⟨a', ha, h2⟩ := hnews j u hj
      cases ha; exact h2
    rcases hS.2 with ⟨rfl, rfl, rfl⟩ | ⟨p, cap, rest, rfl, rfl, h2, h3, h4⟩
    · have hx : xs = [] := List.eq_nil_of_length_eq_zero (by simpa using hS.1)
      subst hx
      have hr := run_append_nil (P := P) w t ty e i z hT.ud hi hz a m cp news hl hnw (by omega) (by omega) (by have hb := hm; simp only [Nat.zero_add] at hb; omega)
      obtain ⟨b', h5, h6⟩ := grown 0
      simp only [Nat.zero_add, List.nil_append, Array.empty_append] at h5 h6 hr ⊢
      exact ⟨_, _, b', hr, h5, h6⟩
    · have hg : w.heap[p]? = some (.cells (xs ++ rest).toArray e (0, 0)) := hs.own (p, _) (List.mem_append_right _ (List.mem_append_left _ List.mem_cons_self))
      by_cases hroom : n + m ≤ cap
      · have hfit : n * i.size + news.length ≤ (xs ++ rest).toArray.size := by rw [List.size_toArray, h4, hl, ← Nat.add_mul]; exact Nat.mul_le_mul_right _ hroom
        have hr := run_append_room (P := P) w t ty e i hT.ud hi p n cap _ hg a m cp news hl hnw h1 hroom hfit
        have e1 : ((xs ++ rest).take (n * i.size) ++ news ++ (xs ++ rest).drop (n * i.size + news.length)) = (xs ++ news) ++ rest.drop news.length := by
          rw [← hS.1, List.take_left, List.drop_append]
          simp
        rw [show ((xs ++ rest).toArray.toList.take (n * i.size) ++ news ++ (xs ++ rest).toArray.toList.drop (n * i.size + news.length)) = (xs ++ news) ++ rest.drop news.length from e1] at hr
        refine ⟨_, _, [(p, .cells ((xs ++ news) ++ rest.drop news.length).toArray e (0, 0))], hr, ⟨hlen, .inr ⟨p, cap, rest.drop news.length, rfl, rfl, hroom, h3, ?_⟩⟩, hs.setRow⟩
        have h5 : rest.length = cap * i.size - n * i.size := by have := h4; rw [List.length_append, hS.1] at this; omega
        have h6 : (n + m) * i.size ≤ cap * i.size := Nat.mul_le_mul_right _ hroom
        rw [List.length_append, hlen, List.length_drop, h5, hl]
        rw [Nat.add_mul] at h6 ⊢
        omega
      · have holds : ∀ j u, xs[j]? = some u → w.cell? ((⟨p, 0, none⟩ : Addr).add j) = some u := fun j u hu => by
          have hadd : (⟨p, 0, none⟩ : Addr).add j = ⟨p, j, none⟩ := by unfold Addr.add; split <;> simp_all
          rw [hadd, cell_of_row w p j _ e (0, 0) hg]
          have hjl : j < xs.length := (List.getElem?_eq_some_iff.1 hu).1
          simp [List.getElem?_append_left hjl, hu]
        have hr := run_append_grow (P := P) w t ty e i z hT.ud hi hz ⟨p, 0, none⟩ n cap xs hS.1 holds a m cp news hl hnw (by omega) (by omega) (growslice_fits (by omega) hm)
        obtain ⟨b', h5, h6⟩ := grown cap
        exact ⟨_, _, b', hr, h5, h6⟩
end
section
variable {c : Cx} {env : Env} {F : Know} {own : Own} {Q : Exit → Act → World → Prop}
variable {ty : TypeId} {ps : String} {af : Array Edge} {g : Option (Nat × Bool)} {l : List Oper} {k : Nat} {draw : Bool}

/-- An append to a slice of one's own. -/
theorem oApp {s x : Operand} {T e : TypeId} {size bytes : Nat} {pre b post : Own} {v : Value} {n : Nat} {xs : List Value} {A : Option Addr} {m cp : Nat} {news : List Value} {t : Tmp} (hB : draw = true → aloneB l.toArray k = true)
    (ho : nthO l k = some ⟨some t, .call { callee := .builtin .append, args := #[s, x], argTypes := #[T, T] }, ty, ps, af, g⟩) (hT : AppT c.P T e size bytes) (hv : Env.ev env s = some v) (hx : Env.ev env x = some (.slice A m cp))
    (hd : Nat.blt t c.n = true) (hw : wantedB l.toArray env ⟨some t, .call { callee := .builtin .append, args := #[s, x], argTypes := #[T, T] }, ty, ps, af, g⟩)
    (hS : SlO e size v n xs b) (hl : news.length = m * size) (hnews : ∀ w, Sat c F (pre ++ (b ++ post)) w → ∀ j u, news[j]? = some u → ∃ a, A = some a ∧ w.cell? (a.add j) = some u) (h1 : ∀ u ∈ news, u.oneCell' = true)
    (hm : (n + m) * bytes ≤ 140737488355328) (hm2 : n + m ≤ maxLen)
    (hn : ∀ A' cp' b', SlO e size (.slice A' (n + m) cp') (n + m) (xs ++ news) b' → R c draw l.toArray Q (k + 1) ((t, .slice A' (n + m) cp') :: env) F (pre ++ (b' ++ post))) : R c draw l.toArray Q k env F (pre ++ (b ++ post)) := by
  refine r_one (Array.getElem?_eq_some_iff.1 (by rw [← nthO_eq]; exact ho)).1 hB fun a w hh => ?_
  unfold wpOpIn
  have ho' : l.toArray[k]? = some ⟨some t, .call { callee := .builtin .append, args := #[s, x], argTypes := #[T, T] }, ty, ps, af, g⟩ := by rw [← nthO_eq]; exact ho
  simp only [ho', wanted_of hh.env hw, if_true]
  refine ⟨fun _ _ => trivial, ?_⟩
  rw [Oper.semAt_eq _ _ _ (fun _ h => by cases h)]
  obtain ⟨v', w', b', hr, h2, h3⟩ := run_append_sl hT hS hl hh.sat (hnews w hh.sat) h1 hm hm2 ty
  unfold execOp
  simp only [resolve, invoke, builtin, Sem.run_bind, Sem.run_pure, Result.andThen_ok, List.map_toArray, List.map_cons, List.map_nil, hh.env.eval hv, hh.env.eval hx]
  rw [hr]
  obtain ⟨A', cp', rfl, _⟩ := h2.slice
  exact hn A' cp' b' h2 _ _ ⟨hh.env.put' (d := some t) (by simpa using hd) _, h3⟩

/-- The same, where the slice's block stands last. -/
theorem oAppS {s x : Operand} {T e : TypeId} {size bytes : Nat} {pre b : Own} {v : Value} {n : Nat} {xs : List Value} {A : Option Addr} {m cp : Nat} {news : List Value} {t : Tmp} (hB : draw = true → aloneB l.toArray k = true)
    (ho : nthO l k = some ⟨some t, .call { callee := .builtin .append, args := #[s, x], argTypes := #[T, T] }, ty, ps, af, g⟩) (hT : AppT c.P T e size bytes) (hv : Env.ev env s = some v) (hx : Env.ev env x = some (.slice A m cp))
    (hd : Nat.blt t c.n = true) (hw : wantedB l.toArray env ⟨some t, .call { callee := .builtin .append, args := #[s, x], argTypes := #[T, T] }, ty, ps, af, g⟩)
    (hS : SlO e size v n xs b) (hl : news.length = m * size) (hnews : ∀ w, Sat c F (pre ++ b) w → ∀ j u, news[j]? = some u → ∃ a, A = some a ∧ w.cell? (a.add j) = some u) (h1 : ∀ u ∈ news, u.oneCell' = true)
    (hm : (n + m) * bytes ≤ 140737488355328) (hm2 : n + m ≤ maxLen)
    (hn : ∀ A' cp' b', SlO e size (.slice A' (n + m) cp') (n + m) (xs ++ news) b' → R c draw l.toArray Q (k + 1) ((t, .slice A' (n + m) cp') :: env) F (pre ++ b')) : R c draw l.toArray Q k env F (pre ++ b) := by
  have h := oApp (c := c) (env := env) (F := F) (Q := Q) (l := l) (k := k) (draw := draw) (pre := pre) (b := b) (post := []) (news := news) hB ho hT hv hx hd hw hS hl (by simpa using hnews) h1 hm hm2 (by simpa using hn)
  simpa using h

/-- The cells of a slice of one's own, one element after the other. -/
theorem SlO.cell {e : TypeId} {size n : Nat} {v : Value} {xs : List Value} {b : Own} (h : SlO e size v n xs b) {A : Option Addr} {m cp : Nat} (hv : v = .slice A m cp) {w : World} (hw : ∀ x ∈ b, w.heap[x.1]? = some x.2) :
    ∀ j u, xs[j]? = some u → ∃ a, A = some a ∧ w.cell? (a.add j) = some u := by
  intro j u hj
  rcases h.2 with ⟨rfl, rfl, _⟩ | ⟨p, cap, rest, rfl, rfl, _⟩
  · have : xs = [] := List.eq_nil_of_length_eq_zero (by simpa using h.1)
    subst this; simp at hj
  · cases hv
    refine ⟨_, rfl, ?_⟩
    have hg := hw _ List.mem_cons_self
    simp only at hg
    have hadd : (⟨p, 0, none⟩ : Addr).add j = ⟨p, j, none⟩ := by unfold Addr.add; split <;> simp_all
    rw [hadd, cell_of_row w p j _ e (0, 0) hg]
    have hjl : j < xs.length := (List.getElem?_eq_some_iff.1 hj).1
    simp [List.getElem?_append_left hjl, hj]
/-- The same, of what is known later. -/
theorem SlO.later {e : TypeId} {size n : Nat} {v : Value} {xs : List Value} {b : Own} (h : SlO e size v n xs b) {F' : Know} (hF : ∀ p cs t fr k, (p, Obj.cells cs t fr) ∈ b → ∀ u, cs[k]? = some u → F' ⟨p, k, none⟩ = some u) :
    ∃ A cap, v = .slice A n cap ∧ n ≤ cap ∧ cap ≤ maxLen ∧ ∀ j u, xs[j]? = some u → ∃ a, A = some a ∧ F' (a.add j) = some u := by
  rcases h.2 with ⟨rfl, rfl, _⟩ | ⟨p, cap, rest, rfl, rfl, h2, h3, _⟩
  · have : xs = [] := List.eq_nil_of_length_eq_zero (by simpa using h.1)
    subst this
    exact ⟨none, 0, rfl, Nat.le_refl _, Nat.zero_le _, fun j u hj => by simp at hj⟩
  · refine ⟨_, cap, rfl, h2, h3, fun j u hj => ⟨_, rfl, ?_⟩⟩
    have hadd : (⟨p, 0, none⟩ : Addr).add j = ⟨p, j, none⟩ := by unfold Addr.add; split <;> simp_all
    rw [hadd]
    have hjl : j < xs.length := (List.getElem?_eq_some_iff.1 hj).1
    exact hF p _ e (0, 0) j List.mem_cons_self u (by simp [List.getElem?_append_left hjl, hj])
/-- A cell of a block of one's own. -/
theorem Sat.cellO {w : World} (h : Sat c F own w) {p : Nat} {cs : List Value} {T : TypeId} {fr : Nat × Nat} (hm : (p, Obj.cells cs.toArray T fr) ∈ own) {j : Nat} {u : Value} (hj : cs[j]? = some u) : ∃ a, some (⟨p, 0, none⟩ : Addr) = some a ∧ w.cell? (a.add j) = some u := by
  refine ⟨_, rfl, ?_⟩
  have hg := h.own _ hm
  simp only at hg
  have hadd : (⟨p, 0, none⟩ : Addr).add j = ⟨p, j, none⟩ := by unfold Addr.add; split <;> simp_all
  rw [hadd]
  simp [World.cell?, hg, hj]
/-- An append to an empty slice without room: the elements in a block of their own. -/
theorem new_app0 {s x : Operand} {T e : TypeId} {size bytes : Nat} {d : Option Tmp} {B : Option Addr} {A : Option Addr} {m cp : Nat} {news : List Value} (hT : AppT c.P T e size bytes) (hv : Env.ev env s = some (.slice B 0 0)) (hx : Env.ev env x = some (.slice A m cp))
    (hl : news.length = m * size) (h0 : 0 < m) (hnews : ∀ j u, news[j]? = some u → ∃ a, A = some a ∧ F (a.add j) = some u) (hm : m * bytes ≤ 140737488355328) (hm2 : m ≤ maxLen) :
    New c F own env ⟨d, .call { callee := .builtin .append, args := #[s, x], argTypes := #[T, T] }, ty, ps, af, g⟩ (fun p v ob => SlO e size v m news [(p, ob)]) := by
  intro a ha w hw
  obtain ⟨i, z, hi, hz, hsz, hby, hzs⟩ := hT.el
  subst hsz; subst hby
  have hpos := hT.pos
  obtain ⟨ad, rfl⟩ : ∃ a, A = some a := by
    have h0 : 0 < news.length := by rw [hl]; exact Nat.mul_pos h0 hpos
    obtain ⟨a, ha, _⟩ := hnews 0 news[0] (List.getElem?_eq_getElem h0)
    exact ⟨a, ha⟩
  have hnw : ∀ j u, news[j]? = some u → w.cell? (ad.add j) = some u := fun j u hj => by
    obtain ⟨a', ha, h2⟩ := hnews j u hj
    cases ha; exact hw.know _ _ h2
  have hsmall : m ≤ 9223372036854775807 := by simp only [maxLen] at hm2; omega
  have hge := grownCap_ge w m 0 e
  have hcm := grownCap_le_maxLen w m 0 e hm2
  have hSl : SlO e i.size (.slice (some ⟨w.heap.size, 0, none⟩) m (grownCap w m 0 e)) m news [(w.heap.size, .cells (news.toArray ++ Builtin.zeroCells z.cells (grownCap w m 0 e - m)) e)] := by
    refine ⟨hl, .inr ⟨_, _, (Builtin.zeroCells z.cells (grownCap w m 0 e - m)).toList, rfl, by simp, hge, hcm, ?_⟩⟩
    rw [List.length_append, hl, Array.length_toList, size_zeroCells, hzs, ← Nat.add_mul]
    congr 1; omega
  have hgr : Grew w (w.drew.alloc (.cells (news.toArray ++ Builtin.zeroCells z.cells (grownCap w m 0 e - m)) e)) (some (.cells (news.toArray ++ Builtin.zeroCells z.cells (grownCap w m 0 e - m)) e)) :=
    ⟨rfl, rfl, rfl, by show w.heap.push _ = _; simp⟩
  have hrun : (Builtin.append_ #[T, T] ty #[.slice B 0 0, .slice (some ad) m cp]).run c.P w = .ok (.slice (some ⟨w.heap.size, 0, none⟩) m (grownCap w m 0 e)) (w.drew.alloc (.cells (news.toArray ++ Builtin.zeroCells z.cells (grownCap w m 0 e - m)) e)) := by
    cases B with
    | none => exact run_append_nil (P := c.P) w T ty e i z hT.ud hi hz ad m cp news hl hnw h0 (by omega) (by omega)
    | some b =>
      have hr := run_append_grow (P := c.P) w T ty e i z hT.ud hi hz b 0 0 [] (by simp) (fun j v h => by simp at h) ad m cp news hl hnw (by omega) (by omega) (growslice_fits (by omega) (by simpa using hm))
      simpa using hr
  refine ⟨_, _, _, ?_, hgr, hSl⟩
  unfold execOp
  simp only [resolve, invoke, builtin, Sem.run_bind, Sem.run_pure, Result.andThen_ok, List.map_toArray, List.map_cons, List.map_nil, ha.eval hv, ha.eval hx]
  rw [hrun]
  rfl
theorem add_zero' (a : Addr) : a.add 0 = a := by unfold Addr.add; split <;> simp_all
/-- The beginning of a slice. -/
theorem det_sliceTo {d : Option Tmp} {t e : TypeId} {sz : Nat} {x hi : Operand} {A : Option Addr} {n cap : Nat} {m : Int} (ht : SliceOf c.P t e sz) (hx : Env.ev env x = some (.slice A n cap))
    (hh : Env.ev env hi = some (.int .i64 m)) (b : 0 ≤ m ∧ m ≤ cap) :
    Det c F own env ⟨d, .slice t x none (some hi) none, ty, ps, af, g⟩ (.slice A m.toNat cap) := by
  have h := det_slice (c := c) (F := F) (own := own) (d := d) (ty := ty) (ps := ps) (af := af) (g := g) (t := t) (lo := none) (hi := some hi) (mx := none) (l := none) (h := some m) (m := none) ht hx rfl (by simp [bndOf, hh]) rfl (by simp) (by simpa using b)
  simp only [Option.getD_none, Option.getD_some, Int.toNat_zero, Nat.sub_zero, Nat.zero_mul, Int.toNat_natCast] at h
  have e : (if cap = 0 then A else A.map fun x => x.add 0) = A := by
    split
    · rfl
    · cases A <;> simp [add_zero']
  rw [e] at h
  exact h
/-- A block of one's own that is written no more: what it holds is known from now on. -/
theorem tk_freeze {K : Act → World → Prop} {pre post : Own} {p : Nat} {cs : List Value} {T : TypeId} {fr : Nat × Nat} (hS : c.S = []) (h : ∀ F', Incl F F' → Fresh c F F' → (∀ k u, cs[k]? = some u → F' ⟨p, k, none⟩ = some u) → TK c env F' (pre ++ post) K) : TK c env F (pre ++ (p, .cells cs.toArray T fr) :: post) K := by
  intro a w hd
  have hs := hd.sat
  have hm : (p, Obj.cells cs.toArray T fr) ∈ pre ++ (p, .cells cs.toArray T fr) :: post := List.mem_append_right _ List.mem_cons_self
  have hp := hs.own _ hm
  simp only at hp
  have hlo : c.w0.heap.size ≤ p := by
    rcases hs.ids _ hm with h1 | h1
    · exact h1
    · rw [hS] at h1; cases h1
  have hsub : (pre ++ post).Sublist (pre ++ (p, Obj.cells cs.toArray T fr) :: post) := (List.sublist_cons_self _ _).append_left _
  have hs2 := hs.sub hsub
  have hnp : p ∉ (pre ++ post).map (·.1) := by
    have hn := hs.nodup
    rw [List.map_append, List.map_cons, List.nodup_append, List.nodup_cons] at hn
    rw [List.map_append, List.mem_append]
    rintro (h1 | h1)
    · exact hn.2.2 p h1 p List.mem_cons_self rfl
    · exact hn.2.1.1 h1
  have hnF : ∀ a u, F a = some u → a.block ≠ p := fun a u ha e => hs.away a u ha (by rw [e]; exact List.mem_map_of_mem (f := (·.1)) hm)
  refine h (fun a => if a.block = p then objCell a (.cells cs.toArray T fr) else F a) (fun a u ha => ?_) (fun a u ha => ?_) (fun k u hu => ?_) a w ⟨hd.env, hs2.keep, fun a v ha => ?_, fun a v ha hm' => ?_, hs2.nodup, hs2.ids, hs2.own⟩
  · simp only [if_neg (hnF a u ha), ha]
  · simp only at ha
    split at ha
    · rename_i e; exact .inr (by rw [e]; exact hlo)
    · exact .inl ha
  · simp [objCell, hu]
  · split at ha
    · rename_i e
      rw [cell_objCell (by rw [e]; exact hp), ha]
    · exact hs.know a v ha
  · split at ha
    · rename_i e; rw [e] at hm'; exact hnp hm'
    · exact hs2.away a v ha hm'
/-- What a make asks of its slice type. -/
structure MakeT (P : Program) (t e : TypeId) (bytes : Nat) (zs : List Value) : Prop where
  ud : P.underlying t = some (.slice e)
  el : ∃ (i : TypeInfo) (z : Value), P.info? e = some i ∧ i.zero = some z ∧ i.size = zs.length ∧ i.bytes = bytes ∧ z.cells = zs.toArray

theorem madeCells_eq (zs : List Value) : ∀ n, madeCells zs.toArray (n * zs.length) = ((List.replicate n zs).flatten).toArray
  | 0 => by simp [madeCells]
  | n + 1 => by
    have ih := madeCells_eq zs n
    have h : ∀ i, i < zs.length → zs.toArray[(n * zs.length + i) % zs.toArray.size]! = zs.toArray[i]! := fun i hi => by
      congr 1
      simp only [List.size_toArray]
      rw [Nat.mul_comm, Nat.mul_add_mod, Nat.mod_eq_of_lt hi]
    apply Array.ext'
    have ih' := congrArg Array.toList ih
    simp only [madeCells, Array.toList_map, Array.toList_range] at ih' ⊢
    rw [Nat.add_mul, Nat.one_mul, List.range_add, List.map_append, ih', List.replicate_succ', List.flatten_append]
    congr 1
    simp only [List.map_map, List.flatten_cons, List.flatten_nil, List.append_nil]
    apply List.ext_getElem
    · simp
    · intro i h1 h2
      simp only [List.getElem_map, List.getElem_range, Function.comp_apply]
      have h3 : i < zs.length := by simpa using h1
      rw [h i h3]
      simp [h3]

theorem new_makeSlice {d : Option Tmp} {t e : TypeId} {bytes : Nat} {zs : List Value} {x y : Operand} {kl kc : IntKind} {l c' : Int} (hT : MakeT c.P t e bytes zs) (hx : Env.ev env x = some (.int kl l)) (hy : Env.ev env y = some (.int kc c')) (h0 : 0 ≤ l) (h1 : l ≤ c')
    (h2 : (bytes : Int) * c' ≤ 281474976710656) (h3 : c' ≤ 9223372036854775807) :
    New c F own env ⟨d, .makeSlice t x y, ty, ps, af, g⟩ (fun p v ob => v = .slice (some ⟨p, 0, none⟩) l.toNat c'.toNat ∧ ob = .cells ((List.replicate c'.toNat zs).flatten).toArray e (0, 0)) := by
  intro a ha w hw
  obtain ⟨i, z, hi, hz, hsz, hby, hzc⟩ := hT.el
  have hr := run_make (P := c.P) w t e i z hT.ud hi hz kl kc l c' h0 h1 (by rw [hby]; exact h2) h3
  rw [hzc, hsz, madeCells_eq] at hr
  refine ⟨_, _, _, ?_, Grew.alloc w (.cells ((List.replicate c'.toNat zs).flatten).toArray e (0, 0)), rfl, rfl⟩
  simp only [execOp, ha.eval hx, ha.eval hy, hr, Sem.run_bind, Result.andThen_ok, Sem.run_pure]
theorem flat_one {α : Type} (n : Nat) (z : α) : (List.replicate n [z]).flatten = List.replicate n z := by
  induction n with
  | zero => rfl
  | succ n ih => simp [List.replicate_succ, ih]
theorem setV_one {v : Value} : ∀ {l : List Value} {j : Nat} (_ : j < l.length) (k : List Value → Option (List Value)), setV j [v] l k = k (l.set j v)
  | u :: l, 0, _, k => by simp [setV]
  | u :: l, j + 1, h, k => by simp only [setV, List.set_cons_succ]; exact setV_one (by simpa using h) _
theorem rep_set {α : Type} {a b : α} {n s : Nat} (h : s < n) : (List.replicate s a ++ List.replicate (n - s) b).set s a = List.replicate (s + 1) a ++ List.replicate (n - (s + 1)) b := by
  rw [show n - s = (n - (s + 1)) + 1 by omega, List.replicate_succ, List.set_append_right _ _ (by simp), List.length_replicate, Nat.sub_self, List.set_cons_zero, List.replicate_succ', List.append_assoc]
  rfl
/-- Two cells of a block that is known. -/
theorem pairK {F' : Know} {p : Nat} {cs : List Value} (hK : ∀ k u, cs[k]? = some u → F' ⟨p, k, none⟩ = some u) (i : Nat) {u v : Value} (h0 : cs[i * 2]? = some u) (h1 : cs[i * 2 + 1]? = some v) : ∀ j, j < 2 → F' (((⟨p, 0, none⟩ : Addr).add (((i : Int)).toNat * 2)).add j) = [u, v][j]? := by
  intro j hj
  rw [add_mk, add_mk, show 0 + ((i : Int)).toNat * 2 + j = i * 2 + j by omega]
  match j, hj with
  | 0, _ => exact hK _ _ h0
  | 1, _ => exact hK _ _ h1
end
end Go.Eng
