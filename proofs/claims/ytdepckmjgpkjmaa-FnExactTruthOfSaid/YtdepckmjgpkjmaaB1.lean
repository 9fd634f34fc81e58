/-
  Heaps: the shape: the contracts.
-/
import Derived.Test.YtdepckmjgpkjmaaT
import Derived.Test.YtdepckmjgpkjmaaL
import Derived.Deep.QuietTactic
import Derived.BigQuiet
import Derived.Deep.LoopGhost
import Derived.Deep.RegionHeld3
import Derived.Test.YtdepckmjgpkjmaaN
import Derived.Test.YtdepckmjgpkjmaaA
import Derived.WalkSpells
import Derived.Laws.Cover3
import Derived.Test.YtdepckmjgpkjmaaB0
import Derived.Test.YtdepckmjgpkjmaaVM
namespace Go.Proofs.Ytdepckmjgpkjmaa
open Go.RowKit

def zerosB (b : List Int) : Bool := b.all fun x => x == 0
def shapeB (h : Heap) : Bool := (h.Bytes.length == 384) && (h.Class.length == 6) && bytesOkB h.Bytes && h.Class.all (inB (-1) 2)
structure Shape (h : Heap) : Prop where
  bl : h.Bytes.length = 384
  cl : h.Class.length = 6
  by_ : h.Bytes.all (inB 0 255) = true
  cs : ∀ i, -1 ≤ h.Class.getD i (-1) ∧ h.Class.getD i (-1) ≤ 2
theorem shape_of {h : Heap} (k : shapeB h = true) : Shape h := by
  simp only [shapeB, bytesOkB, Bool.and_eq_true, beq_iff_eq] at k
  obtain ⟨⟨⟨k1, k2⟩, k3, k4⟩, k5⟩ := k
  refine ⟨k1, k2, k4, fun i => ?_⟩
  by_cases hi : i < h.Class.length
  · rw [getD_at hi]
    exact inB_iff.1 (List.all_eq_true.1 k5 _ (List.getElem_mem hi))
  · rw [getD_off (by omega)]
    omega
def clAt (h : Heap) (s : Int) : Int := h.Class.getD (s / 4).toNat (-1)
def classInB (h : Heap) (s : Int) : Int := if genAt s (clAt h s) < 0 then -1 else clAt h s
def genInB (h : Heap) (s : Int) : Int := if classInB h s < 0 then 0 else loadN h.Bytes (genAt s (classInB h s)) 4
