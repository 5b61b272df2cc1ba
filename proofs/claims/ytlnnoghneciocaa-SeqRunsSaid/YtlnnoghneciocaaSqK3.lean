/-
  Drafts of lists; a growing list of counters; the reference's Next.
-/
import Derived.Test.YtlnnoghneciocaaEng18
import Derived.Test.YtlnnoghneciocaaSqK
namespace Go.Sq
open Go Go.Eng
structure Dr where
  a : Int
  b : Int
def drv (d : Dr) : List Value := [.int .u16 d.a, .int .u16 d.b]
theorem drv_len (d : Dr) : (drv d).length = 2 := rfl
def Dr.rng (d : Dr) : Prop := (0 ≤ d.a ∧ d.a ≤ 65535) ∧ (0 ≤ d.b ∧ d.b ≤ 65535)
abbrev DK (F : Know) (A : Option Addr) (n : Nat) (l : List Dr) : Prop := RowsK drv 2 F A n l
def dD : Dr := ⟨0, 0⟩
def atD (l : List Dr) (k : Nat) : Dr := l.getD k dD
theorem atD_get {l : List Dr} {k : Nat} (h : k < l.length) : atD l k = l[k] := by simp [atD, h]
def strmD (l : List Dr) : Nat → Int
  | 0 => 0
  | k + 1 => strmD l k + 1 + (atD l k).a % 300
theorem strmD_bd (l : List Dr) : ∀ k : Nat, (k : Int) ≤ strmD l k ∧ strmD l k ≤ 300 * k
  | 0 => by simp [strmD]
  | k + 1 => by have := strmD_bd l k; simp only [strmD]; omega
def ctD (l : List Dr) (k : Nat) : Ct := ⟨strmD l (k + 1), (atD l k).b⟩
def listK (l : List Dr) (k : Nat) : List Ct := (List.range k).map (ctD l)
theorem listK_len (l : List Dr) (k : Nat) : (listK l k).length = k := by simp [listK]
theorem listK_succ (l : List Dr) (k : Nat) : listK l (k + 1) = listK l k ++ [ctD l k] := by simp [listK, List.range_succ]
def listD (l : List Dr) : List Ct := listK l (min l.length 12)
/-- A growing list of counters. -/
structure GS where
  A : Option Addr
  c : Nat
  b : Own
abbrev GL (s : GS) (xs : List Ct) : Prop := SlO 50 2 (.slice s.A xs.length s.c) xs.length (rowsV ctv xs) s.b
theorem GL.zero : GL ⟨none, 0, []⟩ [] := SlO.nil 50 2
theorem GL.of {A : Option Addr} {c : Nat} {b : Own} {xs : List Ct} {y : Ct} (h : SlO 50 2 (.slice A (xs.length + 1) c) (xs.length + 1) (rowsV ctv xs ++ ctv y) b) : GL ⟨A, c, b⟩ (xs ++ [y]) := by
  show SlO 50 2 (.slice A (xs ++ [y]).length c) (xs ++ [y]).length _ b
  rw [rowsV_app, rowsV_one, List.length_append]
  exact h
theorem GL.read {F' : Know} {s : GS} {xs : List Ct} (h : GL s xs) (hF : ∀ p cs t fr k, (p, Obj.cells cs t fr) ∈ s.b → ∀ u, cs[k]? = some u → F' ⟨p, k, none⟩ = some u) : xs.length ≤ s.c ∧ s.c ≤ maxLen ∧ CK F' s.A xs.length xs := SlO.ck h hF rfl
/-! ### The reference's Next -/
/-- The list behind the number, before its length is looked at. -/
def fullL (l : List Ct) (t : Int) : List Ct :=
  if fstI l t < l.length ∧ (atC l (fstI l t)).st = t then l.take (fstI l t) ++ ⟨t, aft (atC l (fstI l t)).nx 1⟩ :: l.drop (fstI l t + 1) else l.take (fstI l t) ++ ⟨t, 1⟩ :: l.drop (fstI l t)
def fullN (l : List Ct) (t : Int) : Int := if fstI l t < l.length ∧ (atC l (fstI l t)).st = t then (atC l (fstI l t)).nx else 0
/-- Where the loop stands: the list so far, the number, whether it is done. -/
def NI (l : List Ct) (t : Int) (k : Nat) (xs : List Ct) (q : Int) (dn : Bool) : Prop :=
  if dn then xs ++ l.drop k = fullL l t ∧ q = fullN l t ∧ xs.length ≤ k + 1 ∧ ∀ j, k ≤ j → j < l.length → t < (atC l j).st
  else xs = l.take k ∧ q = 0 ∧ ∀ j, j < k → (atC l j).st < t
theorem NI.zero (l : List Ct) (t : Int) : NI l t 0 [] 0 false := by simp [NI]
theorem drop_cons {l : List Ct} {k : Nat} (h : k < l.length) : l.drop k = atC l k :: l.drop (k + 1) := by rw [List.drop_eq_getElem_cons h, atC_get h]
theorem take_succ {l : List Ct} {k : Nat} (h : k < l.length) : l.take (k + 1) = l.take k ++ [atC l k] := by rw [List.take_add_one, List.getElem?_eq_getElem h, atC_get h]; rfl
theorem NI.len {l : List Ct} {t : Int} {k : Nat} {xs : List Ct} {q : Int} {dn : Bool} (h : NI l t k xs q dn) (hk : k ≤ l.length) : xs.length ≤ k + 1 := by
  cases dn
  · obtain ⟨rfl, _⟩ := h; simp; omega
  · exact h.2.2.1
theorem fst_k {l : List Ct} {t : Int} {k : Nat} (hk : k ≤ l.length) (h : ∀ j, j < k → (atC l j).st < t) (h2 : k < l.length → t ≤ (atC l k).st) : fstI l t = k := fstI_eq hk h h2
theorem NI.hit {l : List Ct} {t : Int} {k : Nat} {xs : List Ct} {q : Int} {dn : Bool} (hok : okL l = true) (h : NI l t k xs q dn) (hk : k < l.length) (hb : (atC l k).st = t) : NI l t (k + 1) (xs ++ [⟨t, aft (atC l k).nx 1⟩]) (atC l k).nx true := by
  cases dn
  · obtain ⟨rfl, -, h3⟩ := h
    have hf := fst_k (t := t) (Nat.le_of_lt hk) h3 (fun _ => by omega)
    refine ⟨?_, ?_, by simp; omega, fun j hj hl => ?_⟩
    · unfold fullL; rw [hf, if_pos ⟨hk, hb⟩, List.append_assoc]; rfl
    · unfold fullN; rw [hf, if_pos ⟨hk, hb⟩]
    · have := ok_rise hok (j := k) (k := j) (by omega) hl; omega
  · have := h.2.2.2 k (Nat.le_refl _) hk; omega
theorem NI.ins {l : List Ct} {t : Int} {k : Nat} {xs : List Ct} {q : Int} (hok : okL l = true) (h : NI l t k xs q false) (hk : k < l.length) (hb : t < (atC l k).st) : NI l t (k + 1) (xs ++ [⟨t, 1⟩] ++ [atC l k]) q true := by
  obtain ⟨rfl, rfl, h3⟩ := h
  have hf := fst_k (t := t) (Nat.le_of_lt hk) h3 (fun _ => by omega)
  have hn : ¬ (k < l.length ∧ (atC l k).st = t) := by omega
  refine ⟨?_, ?_, by simp; omega, fun j hj hl => ?_⟩
  · unfold fullL; rw [hf, if_neg hn, drop_cons hk]; simp
  · unfold fullN; rw [hf, if_neg hn]
  · have := ok_rise hok (j := k) (k := j) (by omega) hl; omega
theorem NI.pass {l : List Ct} {t : Int} {k : Nat} {xs : List Ct} {q : Int} {dn : Bool} (h : NI l t k xs q dn) (hk : k < l.length) (h1 : (atC l k).st ≠ t) (h2 : dn = false → ¬ t < (atC l k).st) : NI l t (k + 1) (xs ++ [atC l k]) q dn := by
  cases dn
  · obtain ⟨rfl, rfl, h3⟩ := h
    refine ⟨(take_succ hk).symm, rfl, fun j hj => ?_⟩
    rcases Nat.lt_or_ge j k with h4 | h4
    · exact h3 j h4
    · rw [show j = k by omega]; have := h2 rfl; omega
  · obtain ⟨h3, h4, h5, h6⟩ := h
    refine ⟨by rw [← h3, drop_cons hk]; simp, h4, by simp; omega, fun j hj hl => h6 j (by omega) hl⟩
/-- The end. -/
theorem NI.done {l : List Ct} {t : Int} {xs : List Ct} {q : Int} (h : NI l t l.length xs q true) : xs = fullL l t ∧ q = fullN l t := by
  obtain ⟨h1, h2, _⟩ := h
  rw [List.drop_length, List.append_nil] at h1
  exact ⟨h1, h2⟩
theorem NI.miss {l : List Ct} {t : Int} {xs : List Ct} {q : Int} (h : NI l t l.length xs q false) : xs ++ [⟨t, 1⟩] = fullL l t ∧ q = fullN l t := by
  obtain ⟨rfl, rfl, h3⟩ := h
  have hf := fst_k (t := t) (Nat.le_refl _) h3 (fun h => absurd h (Nat.lt_irrefl _))
  unfold fullL fullN
  rw [hf, if_neg (by simp), if_neg (by simp)]
  simp
theorem full_next {l : List Ct} {t : Int} (hok : okL l = true) (ht : 1 ≤ t ∧ t ≤ 4095) : nextL l t = if 12 < (fullL l t).length then (([], 0), 7) else ((fullL l t, fullN l t), 0) := by
  have hl := (okL_iff.1 hok).1
  have hle := fstI_le l t
  by_cases hk : fstI l t < l.length ∧ (atC l (fstI l t)).st = t
  · have e1 : fullL l t = l.take (fstI l t) ++ ⟨t, aft (atC l (fstI l t)).nx 1⟩ :: l.drop (fstI l t + 1) := by unfold fullL; rw [if_pos hk]
    have hn : (fullL l t).length = l.length := by rw [e1]; simp; omega
    rw [if_neg (by omega), next_known hok ht hk.1 hk.2, e1]
    unfold fullN; rw [if_pos hk]
  · have e1 : fullL l t = l.take (fstI l t) ++ ⟨t, 1⟩ :: l.drop (fstI l t) := by unfold fullL; rw [if_neg hk]
    have hn : (fullL l t).length = l.length + 1 := by rw [e1]; simp; omega
    by_cases h12 : l.length = 12
    · rw [if_pos (by omega), next_full hok ht hk h12]
    · rw [if_neg (by omega), next_new hok ht hk h12, e1]
      unfold fullN; rw [if_neg hk]
structure NSt where
  i : Nat
  n : Nat
  c : Nat
  A : Option Addr
  b : Own
  xs : List Ct
  q : Int
  dn : Bool
structure NOk (l : List Ct) (t : Int) (s : NSt) : Prop where
  i : s.i ≤ l.length
  S : SlO 50 2 (.slice s.A s.n s.c) s.n (rowsV ctv s.xs) s.b
  n : s.n = s.xs.length
  I : NI l t s.i s.xs s.q s.dn
theorem NOk.zero (l : List Ct) (t : Int) : NOk l t ⟨0, 0, 0, none, [], [], 0, false⟩ := ⟨Nat.zero_le _, SlO.nil 50 2, rfl, NI.zero l t⟩
theorem rows1 (xs : List Ct) (y : Ct) : rowsV ctv (xs ++ [y]) = rowsV ctv xs ++ ctv y := by rw [rowsV_app, rowsV_one]
end Go.Sq
