/-
  Choosing a queue, in plain terms: what the laws' helpers make.
-/
import Derived.Test.YtffocfffggfenaaChPlain8
namespace Go.Ch
open Go Go.Eng Go.Gt Go.Proofs.Gt Go.Sw Go.Qu
def putH (hs : List Pt) (p : Pt) : List Pt := hs.set p.it.cl.toNat p
def headK (ps : List Pt) (k : Nat) : List Pt := (ps.take k).foldl putH (List.replicate 8 dPt)
def headsL (ps : List Pt) : List Pt := ps.foldl putH (List.replicate 8 dPt)
theorem headK_all {ps : List Pt} {k : Nat} (h : ps.length ≤ k) : headK ps k = headsL ps := by unfold headK; rw [List.take_of_length_le h]; rfl
theorem headK_succ {ps : List Pt} {k : Nat} (hk : k < ps.length) : headK ps (k + 1) = (headK ps k).set ps[k].it.cl.toNat ps[k] := by
  unfold headK
  rw [List.take_succ_eq_append_getElem hk, List.foldl_append]; rfl
theorem foldH_len : ∀ (ps : List Pt) (hs : List Pt), (ps.foldl putH hs).length = hs.length
  | [], _ => rfl
  | p :: r, hs => by rw [List.foldl_cons, foldH_len r]; unfold putH; rw [List.length_set]
theorem headK_len (ps : List Pt) (k : Nat) : (headK ps k).length = 8 := by unfold headK; rw [foldH_len]; rfl
theorem headsL_len (ps : List Pt) : (headsL ps).length = 8 := by unfold headsL; rw [foldH_len]; rfl
def frameP (c z : Int) : Pt := ⟨⟨0, 0, c, z, 0⟩, z, false⟩
def halfE : Ents := [(255, 1000), (128, 1000)]
def halfL (A : Option Addr) (n cap : Nat) : Ln := ⟨⟨A, n, cap, halfE, 2000⟩, 1, 0⟩
def fewN (l : Ln) : Nat := (min (l.g.n : Int) 129).toNat
def fewL (l : Ln) : Ln := ⟨⟨l.g.A, fewN l, l.g.cap, l.g.es.take (fewN l), l.g.cyc⟩, l.per, l.sh⟩
end Go.Ch
