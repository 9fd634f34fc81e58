/-
  Memories valid, the states of slots: the program.
-/
import Derived.Test.YtodbkbolpcbooaaT
import Derived.Test.YtodbkbolpcbooaaL
import Derived.Deep.QuietTactic
import Derived.BigQuiet
import Derived.Deep.LoopGhost
import Derived.Deep.RegionHeld3
import Derived.Test.YtodbkbolpcbooaaN
import Derived.Test.YtodbkbolpcbooaaA
import Derived.WalkSpells
import Derived.Laws.Cover3
import Derived.Test.YtodbkbolpcbooaaBB
namespace Go.Proofs.Ytodbkbolpcbooaa
open Go.RowKit
theorem Mem.rdHeap {w : World} {B : Nat} {H : HMem} {x : Mem} (h : RdMem w B H x) : RdHeap w B H.Heap x.Heap := h.Heap
def fitsTo (m : Mem) (k : Nat) : Bool := (List.range k).all fun c => (m.Lists.Global.getD c []).all (fitsB m.Heap c)
def fitsOwn (m : Mem) (k : Nat) : Bool := (List.range k).all fun k => (m.Lists.Own.getD k []).all (fitsB m.Heap ((k % 3 : Nat) : Int))
theorem memOkB_eq (m : Mem) : memOkB m = (heapOkB m.Heap && listsOkB m.Lists && fitsTo m 3 && fitsOwn m 9) := rfl
theorem fitsTo_succ (m : Mem) (k : Nat) : fitsTo m (k + 1) = (fitsTo m k && (m.Lists.Global.getD k []).all (fitsB m.Heap k)) := by
  unfold fitsTo
  rw [List.range_succ, List.all_append]
  simp
theorem fitsOwn_succ (m : Mem) (k : Nat) : fitsOwn m (k + 1) = (fitsOwn m k && (m.Lists.Own.getD k []).all (fitsB m.Heap ((k % 3 : Nat) : Int))) := by
  unfold fitsOwn
  rw [List.range_succ, List.all_append]
  simp
theorem fitsTo_no {m : Mem} {k n : Nat} (hk : k < n) (h : (m.Lists.Global.getD k []).all (fitsB m.Heap k) = false) : fitsTo m n = false :=
  List.all_eq_false.2 ⟨k, List.mem_range.2 hk, by rw [h]; decide⟩
theorem fitsOwn_no {m : Mem} {k n : Nat} (hk : k < n) (h : (m.Lists.Own.getD k []).all (fitsB m.Heap ((k % 3 : Nat) : Int)) = false) : fitsOwn m n = false :=
  List.all_eq_false.2 ⟨k, List.mem_range.2 hk, by rw [h]; decide⟩
theorem lists_len {l : Lists} (h : listsOkB l = true) : l.Global.length = 3 ∧ l.Own.length = 9 := by
  unfold listsOkB at h
  simp only [Bool.and_eq_true, beq_iff_eq] at h
  exact ⟨h.1.1.1, h.1.1.2⟩