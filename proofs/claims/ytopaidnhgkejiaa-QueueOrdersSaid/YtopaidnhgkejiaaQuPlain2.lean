/-
  Laws of queues, in plain terms.
-/
import Derived.Test.YtopaidnhgkejiaaQuPlain
namespace Go.Qu
def good (p : Pt) : Bool := okP p && !p.rest
theorem validF_succ : ∀ (r : List Pt) (i : Nat), validF (i + 1) r = r.all good
  | [], _ => rfl
  | p :: r, i => by simp [validF, validF_succ r (i + 1), okAt, good]
theorem validP_cons (p : Pt) (r : List Pt) : validP (p :: r) = (okP p && r.all good) := by simp [validP, validF, validF_succ, okAt]
theorem good_valid {r : List Pt} (h : r.all good = true) : validP r = true := by
  cases r with
  | nil => rfl
  | cons p r =>
    rw [validP_cons]
    simp [good] at h ⊢
    exact ⟨h.1.1, fun x hx => h.2 x hx⟩
theorem restQ_cons (p : Pt) (r : List Pt) : restQ (p :: r) = p.rest := by simp [restQ, atP]
theorem restQ_nil : restQ [] = false := rfl
theorem restQ_good {r : List Pt} (h : r.all good = true) : restQ r = false := by
  cases r with
  | nil => rfl
  | cons p r => rw [restQ_cons]; simp [good] at h; exact h.1.2
theorem fullO_cons (p : Pt) (r : List Pt) : fullO (p :: r) = octs r + (if p.rest then 0 else p.left) := by
  unfold fullO
  rw [restQ_cons, octs_cons]
  cases p.rest <;> simp [atP] <;> omega
theorem fullO_norest {r : List Pt} (h : restQ r = false) : fullO r = octs r := by simp [fullO, h]
theorem okI_whole {x : It} (h : okI x = true) : good (whole x) = true := by simp [good, okP, whole, h]
theorem right_iff {cap : Int} {ps : List Pt} : rightQ cap ps = true ↔ (0 ≤ cap ∧ cap ≤ 65536) ∧ validP ps = true ∧ fullO ps ≤ cap := by
  simp [rightQ, and_assoc]
theorem valid_app {ps : List Pt} {q : Pt} (h : validP ps = true) (hq : good q = true) : validP (ps ++ [q]) = true := by
  cases ps with
  | nil => simp [good] at hq; simp [validP_cons, hq]
  | cons p r =>
    rw [List.cons_append, validP_cons]
    rw [validP_cons] at h
    simp only [Bool.and_eq_true, List.all_append, List.all_cons, List.all_nil, Bool.and_true] at h ⊢
    exact ⟨h.1, h.2, hq⟩
theorem full_app {ps : List Pt} {q : Pt} (hq : q.rest = false) : fullO (ps ++ [q]) = fullO ps + q.left := by
  cases ps with
  | nil => simp [octs, fullO, restQ, atP, hq]
  | cons p r => rw [List.cons_append, fullO_cons, fullO_cons, octs_app]; simp [octs]; omega
theorem full_le {ps : List Pt} (h : validP ps = true) : fullO ps ≤ octs ps := by
  cases ps with
  | nil => simp [fullO, restQ]
  | cons p r =>
    rw [fullO_cons, octs_cons]
    rw [validP_cons] at h
    simp at h
    have := okP_bd h.1
    split <;> omega
theorem push_right {cap : Int} {ps : List Pt} {x : It} {r1 : Int} {r2 : List Pt} {rb : Bool} (h : pushQ cap ps x = ((r1, r2), rb, 0)) : rightQ cap ps = true ∧ r1 = cap ∧ rightQ r1 r2 = true ∧ octs r2 = octs ps + (if rb then x.sz else 0) ∧ (rb = true ↔ octs ps + x.sz ≤ cap) ∧ r2 = (if rb then ps ++ [whole x] else ps) ∧ okI x = true := by
  unfold pushQ at h
  split at h
  · cases h
  · rename_i hR
    have hR : rightQ cap ps = true := by simpa using hR
    split at h
    · cases h
    · rename_i hI
      have hI : okI x = true := by simpa using hI
      split at h
      · rename_i hb
        cases h
        exact ⟨hR, rfl, hR, by simp, by simp; omega, by simp, hI⟩
      · rename_i hb
        cases h
        obtain ⟨h1, h2, h3⟩ := right_iff.1 hR
        refine ⟨hR, rfl, right_iff.2 ⟨h1, valid_app h2 (okI_whole hI), ?_⟩, by simp [octs, whole], by simp; omega, by simp, hI⟩
        rw [full_app rfl]
        have := full_le h2
        simp only [whole]; omega
theorem pop_right {cap : Int} {ps : List Pt} {r1 : Int} {r2 : List Pt} {p : Pt} (h : popQ cap ps = ((r1, r2), p, 0)) : rightQ cap ps = true ∧ r1 = cap ∧ rightQ r1 r2 = true ∧ octs r2 = octs ps - p.left ∧ ps = p :: r2 ∧ (84 ≤ p.left ∧ p.left ≤ 1542) ∧ r2.all good = true := by
  unfold popQ at h
  split at h
  · cases h
  · rename_i hR
    have hR : rightQ cap ps = true := by simpa using hR
    split at h
    · cases h
    · rename_i h0
      cases h
      obtain ⟨h1, h2, h3⟩ := right_iff.1 hR
      cases ps with
      | nil => simp at h0
      | cons p r =>
        rw [validP_cons] at h2
        simp only [Bool.and_eq_true] at h2
        rw [fullO_cons] at h3
        have hb := okP_bd h2.1
        refine ⟨hR, rfl, right_iff.2 ⟨h1, by simpa using good_valid h2.2, ?_⟩, by simp [octs_cons, atP]; omega, by simp [atP], by simpa [atP] using hb, by simpa using h2.2⟩
        simp only [List.drop_succ_cons, List.drop_zero]
        rw [fullO_norest (restQ_good h2.2)]
        split at h3 <;> omega
theorem ret_right {cap : Int} {ps : List Pt} {r1 : Int} {r2 : List Pt} {x : Pt} (h : retQ cap ps x = ((r1, r2), 0)) : rightQ cap ps = true ∧ r1 = cap ∧ r2 = x :: ps ∧ rightQ r1 r2 = true ∧ octs r2 = octs ps + x.left ∧ (84 ≤ x.left ∧ x.left ≤ 1542) ∧ popQ r1 r2 = ((cap, ps), x, 0) := by
  unfold retQ at h
  split at h
  · cases h
  · rename_i hR
    have hR : rightQ cap ps = true := by simpa using hR
    split at h
    · cases h
    · rename_i hX
      have hX : okP x = true := by simpa using hX
      split at h
      · cases h
      · rename_i hn
        cases h
        simp only [not_or, Bool.not_eq_false, Bool.not_eq_true] at hn
        obtain ⟨h1, h2, h3⟩ := right_iff.1 hR
        have hg : ps.all good = true := by
          cases ps with
          | nil => rfl
          | cons p r =>
            rw [validP_cons] at h2
            rw [restQ_cons] at hn
            simp only [Bool.and_eq_true] at h2
            simp only [List.all_cons, Bool.and_eq_true]
            exact ⟨by simp [good, h2.1, hn.2], h2.2⟩
        have hb := okP_bd hX
        have hr : rightQ cap (x :: ps) = true := by
          refine right_iff.2 ⟨h1, by rw [validP_cons]; simp [hX, hg], ?_⟩
          rw [fullO_cons, hn.1]
          rw [fullO_norest hn.2] at h3
          simpa using h3
        refine ⟨hR, rfl, rfl, hr, by rw [octs_cons]; omega, hb, ?_⟩
        rw [pop_cons hr (by simp)]
        simp [atP]
end Go.Qu
namespace Go.Qu
open Go Go.Eng
structure St where
  kd : Int
  it : It
def stv (s : St) : List Value := .int .u8 s.kd :: itv s.it
theorem stv_len (s : St) : (stv s).length = 6 := rfl
def dSt : St := ⟨0, dIt⟩
def St.rng (s : St) : Prop := (0 ≤ s.kd ∧ s.kd ≤ 255) ∧ s.it.rng
structure OS where
  F : Know
  i : Nat
  A : Option Addr
  n : Nat
  c : Nat
  qs : List Pt
  ins : List It
  k : Nat
  ai : Option Addr
  ci : Nat
  ao : Option Addr
  co : Nat
  bi : Own
  bo : Own
structure OSok (F0 : Know) (cap : Int) (N : Nat) (s : OS) : Prop where
  i : s.i ≤ N
  F : Incl F0 s.F
  q : PK s.F s.A s.n s.qs
  hn : s.n ≤ s.c
  hm : s.c ≤ maxLen
  r : rightQ cap s.qs = true
  k : s.k ≤ s.ins.length
  l : s.ins.length ≤ s.i
  e : s.qs = (s.ins.drop s.k).map whole
  si : SlO 26 5 (.slice s.ai s.ins.length s.ci) s.ins.length (rowsV itv s.ins) s.bi
  so : SlO 26 5 (.slice s.ao s.k s.co) s.k (rowsV itv (s.ins.take s.k)) s.bo
theorem OSok.len {F0 : Know} {cap : Int} {N : Nat} {s : OS} (h : OSok F0 cap N s) : s.qs.length = s.ins.length - s.k := by rw [h.e]; simp
theorem OSok.start {F : Know} {cap : Int} {N : Nat} (hc : 0 ≤ cap ∧ cap ≤ 65536) : OSok F cap N ⟨F, 0, none, 0, 0, [], [], 0, none, 0, none, 0, [], []⟩ :=
  ⟨Nat.zero_le _, fun _ _ h => h, RowsK.nil, Nat.le_refl _, Nat.zero_le _, by simp [rightQ, validP, validF, fullO, octs, restQ, hc], Nat.zero_le _, Nat.le_refl _, rfl, SlO.nil 26 5, SlO.nil 26 5⟩
/-- A step that leaves all as it was. -/
theorem OSok.stay {F0 F' : Know} {cap : Int} {N : Nat} {s : OS} (h : OSok F0 cap N s) (hi : s.i < N) (hF : Incl s.F F') : OSok F0 cap N { s with F := F', i := s.i + 1 } :=
  ⟨hi, fun a u ha => hF a u (h.F a u ha), h.q.mono hF, h.hn, h.hm, h.r, h.k, Nat.le_succ_of_le h.l, h.e, h.si, h.so⟩
/-- The head is the first frame that has not left. -/
theorem OSok.head {F0 : Know} {cap : Int} {N : Nat} {s : OS} (h : OSok F0 cap N s) {p : Pt} {r : List Pt} (hp : s.qs = p :: r) : ∃ (hk : s.k < s.ins.length), p = whole s.ins[s.k] ∧ r = (s.ins.drop (s.k + 1)).map whole := by
  have hl := h.len
  rw [hp] at hl
  have hk : s.k < s.ins.length := by simp at hl; omega
  refine ⟨hk, ?_⟩
  have e := h.e
  rw [hp, List.drop_eq_getElem_cons hk, List.map_cons] at e
  exact ⟨(List.cons.inj e).1, (List.cons.inj e).2⟩
theorem OSok.pop {F0 F' : Know} {cap : Int} {N : Nat} {s : OS} (h : OSok F0 cap N s) (hi : s.i < N) (hF : Incl s.F F') {A : Option Addr} {n c : Nat} {p : Pt} {r : List Pt} (hp : s.qs = p :: r) (hr : rightQ cap r = true) (hq : PK F' A n r) (hn : n ≤ c) (hm : c ≤ maxLen) {ao : Option Addr} {co : Nat} {bo : Own}
    (hS : SlO 26 5 (.slice ao (s.k + 1) co) (s.k + 1) (rowsV itv (s.ins.take s.k) ++ itv p.it) bo) : OSok F0 cap N { s with F := F', i := s.i + 1, A := A, n := n, c := c, qs := r, k := s.k + 1, ao := ao, co := co, bo := bo } := by
  obtain ⟨hk, e1, e2⟩ := h.head hp
  refine ⟨hi, fun a u ha => hF a u (h.F a u ha), hq, hn, hm, hr, hk, Nat.le_succ_of_le h.l, e2, h.si, ?_⟩
  have : s.ins.take (s.k + 1) = s.ins.take s.k ++ [s.ins[s.k]] := by rw [List.take_add_one]; simp [hk]
  simp only
  rw [this, rowsV_app, rowsV_one]
  rw [e1] at hS
  exact hS
theorem OSok.push {F0 F' : Know} {cap : Int} {N : Nat} {s : OS} (h : OSok F0 cap N s) (hi : s.i < N) (hF : Incl s.F F') {A : Option Addr} {n c : Nat} {x : It} (hr : rightQ cap (s.qs ++ [whole x]) = true) (hq : PK F' A n (s.qs ++ [whole x])) (hn : n ≤ c) (hm : c ≤ maxLen) {ai : Option Addr} {ci : Nat} {bi : Own}
    (hS : SlO 26 5 (.slice ai (s.ins.length + 1) ci) (s.ins.length + 1) (rowsV itv s.ins ++ itv x) bi) : OSok F0 cap N { s with F := F', i := s.i + 1, A := A, n := n, c := c, qs := s.qs ++ [whole x], ins := s.ins ++ [x], ai := ai, ci := ci, bi := bi } := by
  refine ⟨hi, fun a u ha => hF a u (h.F a u ha), hq, hn, hm, hr, ?_, ?_, ?_, ?_, ?_⟩
  · simp only [List.length_append]; have := h.k; omega
  · simp only [List.length_append, List.length_cons, List.length_nil]; have := h.l; omega
  · simp only; rw [List.drop_append_of_le_length h.k, List.map_append, ← h.e]; rfl
  · simp only [List.length_append, List.length_cons, List.length_nil]; rw [rowsV_app, rowsV_one]; exact hS
  · simp only; rw [List.take_append_of_le_length h.k]; exact h.so
theorem OSok.same {F0 F' : Know} {cap : Int} {N : Nat} {s : OS} (h : OSok F0 cap N s) (hi : s.i < N) (hF : Incl s.F F') {A : Option Addr} {n c : Nat} (hq : PK F' A n s.qs) (hn : n ≤ c) (hm : c ≤ maxLen) : OSok F0 cap N { s with F := F', i := s.i + 1, A := A, n := n, c := c } :=
  ⟨hi, fun a u ha => hF a u (h.F a u ha), hq, hn, hm, h.r, h.k, Nat.le_succ_of_le h.l, h.e, h.si, h.so⟩
theorem push_cases {cap : Int} {ps : List Pt} {x : It} {r1 : Int} {r2 : List Pt} {rb : Bool} {re : Int} (hR : rightQ cap ps = true) (h : pushQ cap ps x = ((r1, r2), rb, re)) : (re = 460 ∧ okI x = false) ∨ re = 0 := by
  unfold pushQ at h
  split at h
  · rename_i h0; rw [hR] at h0; cases h0
  · split at h
    · rename_i h1; cases h; exact .inl ⟨rfl, h1⟩
    · split at h <;> cases h <;> exact .inr rfl
theorem pop_cases {cap : Int} {ps : List Pt} {r1 : Int} {r2 : List Pt} {p : Pt} {re : Int} (hR : rightQ cap ps = true) (h : popQ cap ps = ((r1, r2), p, re)) : (re = 4 ∧ ps.length = 0) ∨ re = 0 := by
  unfold popQ at h
  split at h
  · rename_i h0; rw [hR] at h0; cases h0
  · split at h
    · rename_i h1; cases h; exact .inl ⟨rfl, h1⟩
    · cases h; exact .inr rfl
theorem pop_rest {cap : Int} {ps : List Pt} {r1 : Int} {r2 : List Pt} {p : Pt} (h : popQ cap ps = ((r1, r2), p, 0)) : p.rest = p.rest := rfl
end Go.Qu
