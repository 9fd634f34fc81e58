/-
  Memories: do the slots on a list fit to their class?
-/
import Derived.Test.YtodbkbolpcbooaaT
import Derived.Test.YtodbkbolpcbooaaL
import Derived.Deep.QuietTactic
import Derived.BigQuiet
import Derived.Deep.LoopGhost
import Derived.Deep.RegionHeld3
import Derived.Test.YtodbkbolpcbooaaN
import Derived.Test.YtodbkbolpcbooaaA
import Derived.WalkSpells
import Derived.Laws.Cover3
import Derived.Test.YtodbkbolpcbooaaBA
namespace Go.Proofs.Ytodbkbolpcbooaa
open Go.RowKit
theorem held_up {B g0 g k : Nat} {v0 v1 u : Value} {W w w' : World} (h : w.cell? ⟨g0, 0, none⟩ = some v0 ∧ w.cell? ⟨g0, 1, none⟩ = some v1 ∧ w.cell? ⟨g, k, none⟩ = some u ∧ g0 < w.heap.size ∧ g < w.heap.size ∧ Below B W w) (hb : Below w.heap.size w w') (hB : B ≤ g0) :
    w'.cell? ⟨g0, 0, none⟩ = some v0 ∧ w'.cell? ⟨g0, 1, none⟩ = some v1 ∧ w'.cell? ⟨g, k, none⟩ = some u ∧ g0 < w'.heap.size ∧ g < w'.heap.size ∧ Below B W w' := by
  obtain ⟨a, b, c, d, e, f⟩ := h
  exact ⟨cell_up hb d a, cell_up hb d b, cell_up hb e c, Nat.lt_of_lt_of_le d hb.size, Nat.lt_of_lt_of_le e hb.size, f.trans (hb.mono (by omega))⟩