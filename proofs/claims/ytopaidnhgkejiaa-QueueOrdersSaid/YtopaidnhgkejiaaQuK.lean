/-
  The contracts of the queue's functions, at results that are known.
-/
import Derived.Test.YtopaidnhgkejiaaQuW9
namespace Go.Proofs.Qu
open Go Go.Eng Go.Qu
variable {w : World} {F : Know} {A : Option Addr} {n c : Nat} {cap : Int} {ps : List Pt}
abbrev itA (x : It) : Value := .agg [.int .i64 x.st, .int .i64 x.sq, .int .i64 x.cl, .int .i64 x.sz, .int .i64 x.sn].toArray
abbrev ptA (p : Pt) : Value := .agg [.int .i64 p.it.st, .int .i64 p.it.sq, .int .i64 p.it.cl, .int .i64 p.it.sz, .int .i64 p.it.sn, .int .i64 p.left, .bool p.rest].toArray
abbrev qA (cap : Int) (A : Option Addr) (n c : Nat) : Value := .agg [.int .i64 cap, .slice A n c].toArray
theorem push_at (hF : ∀ a v, F a = some v → w.cell? a = some v) (hP : PK F A n ps) (hnb : n ≤ 65536) (hnc : n ≤ c) (hcm : c ≤ maxLen) {x : It} {cap' : Int} {ps' : List Pt} {b : Bool} {er : Int} (e : pushQ cap ps x = ((cap', ps'), b, er)) :
    CallsF Try.prog 21 [qA cap A n c, itA x] w F (fun v F2 => ∃ A1 n1 c1, v = .tuple [qA cap' A1 n1 c1, .bool b, .int .i64 er].toArray ∧ n1 ≤ c1 ∧ c1 ≤ maxLen ∧ PK F2 A1 n1 ps') :=
  (push_ok hF hP hnb hnc hcm (x := x)).mono fun v F2 h => by
    rw [e] at h
    obtain ⟨q, rfl, A1, n1, c1, rfl, h1, h2, h3⟩ := h
    exact ⟨A1, n1, c1, rfl, h1, h2, h3⟩
theorem rpush_at (hF : ∀ a v, F a = some v → w.cell? a = some v) (hP : PK F A n ps) (hnb : n ≤ 65536) (hnc : n ≤ c) (hcm : c ≤ maxLen) {x : It} (hR : rightQ cap ps = true) (hI : okI x = true) {cap' : Int} {ps' : List Pt} {b : Bool} {er : Int} (e : pushQ cap ps x = ((cap', ps'), b, er)) :
    CallsF Try.prog 22 [qA cap A n c, itA x] w F (fun v F2 => ∃ A1 n1 c1, v = .tuple [qA cap' A1 n1 c1, .bool b].toArray ∧ n1 ≤ c1 ∧ c1 ≤ maxLen ∧ PK F2 A1 n1 ps') :=
  (rpush_ok hF hP hnb hnc hcm (x := x) hR hI).mono fun v F2 h => by
    rw [e] at h
    obtain ⟨q, rfl, A1, n1, c1, rfl, h1, h2, h3⟩ := h
    exact ⟨A1, n1, c1, rfl, h1, h2, h3⟩
theorem pop_at (hF : ∀ a v, F a = some v → w.cell? a = some v) (hP : PK F A n ps) (hnb : n ≤ 65536) (hnc : n ≤ c) (hcm : c ≤ maxLen) {cap' : Int} {ps' : List Pt} {p : Pt} {er : Int} (e : popQ cap ps = ((cap', ps'), p, er)) :
    CallsF Try.prog 24 [qA cap A n c] w F (fun v F2 => ∃ A1 n1 c1, v = .tuple [qA cap' A1 n1 c1, ptA p, .int .i64 er].toArray ∧ n1 ≤ c1 ∧ c1 ≤ maxLen ∧ PK F2 A1 n1 ps') :=
  (pop_ok hF hP hnb hnc hcm).mono fun v F2 h => by
    rw [e] at h
    obtain ⟨q, rfl, A1, n1, c1, rfl, h1, h2, h3⟩ := h
    exact ⟨A1, n1, c1, rfl, h1, h2, h3⟩
theorem ret_at (hF : ∀ a v, F a = some v → w.cell? a = some v) (hP : PK F A n ps) (hnb : n ≤ 65536) (hnc : n ≤ c) (hcm : c ≤ maxLen) {x : Pt} {cap' : Int} {ps' : List Pt} {er : Int} (e : retQ cap ps x = ((cap', ps'), er)) :
    CallsF Try.prog 25 [qA cap A n c, ptA x] w F (fun v F2 => ∃ A1 n1 c1, v = .tuple [qA cap' A1 n1 c1, .int .i64 er].toArray ∧ n1 ≤ c1 ∧ c1 ≤ maxLen ∧ PK F2 A1 n1 ps') :=
  (return_ok hF hP hnb hnc hcm (x := x)).mono fun v F2 h => by
    rw [e] at h
    obtain ⟨q, rfl, A1, n1, c1, rfl, h1, h2, h3⟩ := h
    exact ⟨A1, n1, c1, rfl, h1, h2, h3⟩
theorem rret_at (hF : ∀ a v, F a = some v → w.cell? a = some v) (hP : PK F A n ps) (hnb : n ≤ 65536) (hnc : n ≤ c) (hcm : c ≤ maxLen) {x : Pt} :
    CallsF Try.prog 27 [qA cap A n c, ptA x] w F (fun v F2 => ∃ A1 n1 c1, v = qA cap A1 n1 c1 ∧ n1 ≤ c1 ∧ c1 ≤ maxLen ∧ PK F2 A1 n1 (x :: ps)) :=
  (rreturn_ok hF hP hnb hnc hcm (x := x)).mono fun v F2 h => by
    obtain ⟨A1, n1, c1, rfl, h1, h2, h3⟩ := h
    exact ⟨A1, n1, c1, rfl, h1, h2, h3⟩
theorem new_at (hF : ∀ a v, F a = some v → w.cell? a = some v) (h : 0 ≤ cap ∧ cap ≤ 65536) : Pure Try.prog 19 [.int .i64 cap] w (.tuple [qA cap none 0 0, .int .i64 0].toArray) := by
  have := new_ok hF (cap := cap)
  rwa [if_pos h, if_pos h] at this
theorem check_at (hF : ∀ a v, F a = some v → w.cell? a = some v) (hP : PK F A n ps) (hnb : n ≤ 65536) {er : Int} (e : (if rightQ cap ps then 0 else 461) = er) : Pure Try.prog 12 [qA cap A n c] w (.int .i64 er) := by
  rw [← e]; exact check_ok hF hP hnb
theorem octets_at (hF : ∀ a v, F a = some v → w.cell? a = some v) (hP : PK F A n ps) (hnb : n ≤ 65536) {o er : Int} (e : (if rightQ cap ps then (octs ps, (0 : Int)) else (0, 461)) = (o, er)) : Pure Try.prog 17 [qA cap A n c] w (.tuple [.int .i64 o, .int .i64 er].toArray) := by
  have := octets_ok (cap := cap) (c := c) hF hP hnb
  cases h : rightQ cap ps <;> rw [h] at this e <;> cases e <;> exact this
theorem head_at (hF : ∀ a v, F a = some v → w.cell? a = some v) (hP : PK F A n ps) (hnb : n ≤ 65536) {p : Pt} {b : Bool} (e : headQ cap ps = (p, b)) : Pure Try.prog 23 [qA cap A n c] w (.tuple [ptA p, .bool b].toArray) := by
  have := head_ok (cap := cap) (c := c) hF hP hnb
  rwa [e] at this
theorem cpart_at (hF : ∀ a v, F a = some v → w.cell? a = some v) {p : Pt} {er : Int} (e : (if okP p then 0 else 460) = er) : Pure Try.prog 13 [ptA p] w (.int .i64 er) := by
  rw [← e]; exact cpart_ok hF
end Go.Proofs.Qu
namespace Go.Proofs.Qu
open Go Go.Eng Go.Qu
variable {w : World} {F : Know} {cap : Int}
theorem new_bad (hF : ∀ a v, F a = some v → w.cell? a = some v) (h : ¬ (0 ≤ cap ∧ cap ≤ 65536)) : Pure Try.prog 19 [.int .i64 cap] w (.tuple [qA 0 none 0 0, .int .i64 2].toArray) := by
  have := new_ok hF (cap := cap)
  rwa [if_neg h, if_neg h] at this
/-- A list of parts that is written out. -/
theorem pk_lit {F' : Know} {p : Nat} {cs : List Value} (ps : List Pt) (hK : ∀ k u, cs[k]? = some u → F' ⟨p, k, none⟩ = some u) (e : cs = rowsV ptv ps) : PK F' (some ⟨p, 0, none⟩) ps.length ps :=
  rowsK_of ptv_len (by decide) (fun j u hj => ⟨_, rfl, by rw [add_mk, Nat.zero_add]; exact hK j u (by rw [e]; exact hj)⟩) rfl
end Go.Proofs.Qu
