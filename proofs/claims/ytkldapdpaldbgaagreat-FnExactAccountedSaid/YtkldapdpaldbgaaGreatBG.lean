/-
  Memories: the state of a slot, valid handles: the contracts.
-/
import Derived.Test.YtkldapdpaldbgaaGreatT
import Derived.Test.YtkldapdpaldbgaaGreatL
import Derived.Deep.QuietTactic
import Derived.BigQuiet
import Derived.Deep.LoopGhost
import Derived.Deep.RegionHeld3
import Derived.Test.YtkldapdpaldbgaaGreatN
import Derived.Test.YtkldapdpaldbgaaGreatA
import Derived.WalkSpells
import Derived.Laws.Cover3
import Derived.Test.YtkldapdpaldbgaaGreatBF
namespace Go.Proofs.YtkldapdpaldbgaaGreat
open Go.RowKit
def stateOfB (m : Mem) (s : Int) : Int := if memOkB m = true then stateB m s else 0
def validB (m : Mem) (h : Int) : Bool := memOkB m && liveB m h
theorem mem_shape {m : Mem} (k : memOkB m = true) : shapeB m.Heap = true := heap_shape (mem_heap k)
theorem validB_no {m : Mem} (k : memOkB m = false) (h : Int) : validB m h = false := by unfold validB; rw [k]; rfl
theorem validB_yes {m : Mem} (k : memOkB m = true) (h : Int) : validB m h = liveB m h := by unfold validB; rw [k]; rfl