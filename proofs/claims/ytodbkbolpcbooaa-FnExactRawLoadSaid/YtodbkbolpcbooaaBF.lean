/-
  Memories: live handles.
-/
import Derived.Test.YtodbkbolpcbooaaT
import Derived.Test.YtodbkbolpcbooaaL
import Derived.Deep.QuietTactic
import Derived.BigQuiet
import Derived.Deep.LoopGhost
import Derived.Deep.RegionHeld3
import Derived.Test.YtodbkbolpcbooaaN
import Derived.Test.YtodbkbolpcbooaaA
import Derived.WalkSpells
import Derived.Laws.Cover3
import Derived.Test.YtodbkbolpcbooaaBE
namespace Go.Proofs.Ytodbkbolpcbooaa
open Go.RowKit
theorem held_upM {B g0 : Nat} {v0 v1 v2 v3 : Value} {W w w' : World} (h : w.cell? ⟨g0, 0, none⟩ = some v0 ∧ w.cell? ⟨g0, 1, none⟩ = some v1 ∧ w.cell? ⟨g0, 2, none⟩ = some v2 ∧ w.cell? ⟨g0, 3, none⟩ = some v3 ∧ g0 < w.heap.size ∧ Below B W w) (hb : Below w.heap.size w w') (hB : B ≤ g0) :
    w'.cell? ⟨g0, 0, none⟩ = some v0 ∧ w'.cell? ⟨g0, 1, none⟩ = some v1 ∧ w'.cell? ⟨g0, 2, none⟩ = some v2 ∧ w'.cell? ⟨g0, 3, none⟩ = some v3 ∧ g0 < w'.heap.size ∧ Below B W w' := by
  obtain ⟨a, b, a', b', d, f⟩ := h
  exact ⟨cell_up hb d a, cell_up hb d b, cell_up hb d a', cell_up hb d b', Nat.lt_of_lt_of_le d hb.size, f.trans (hb.mono (by omega))⟩