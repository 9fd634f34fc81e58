/-
  Memories valid: the reference.
-/
import Derived.Test.YtodbkbolpcbooaaT
import Derived.Test.YtodbkbolpcbooaaL
import Derived.Deep.QuietTactic
import Derived.BigQuiet
import Derived.Deep.LoopGhost
import Derived.Deep.RegionHeld3
import Derived.Test.YtodbkbolpcbooaaN
import Derived.Test.YtodbkbolpcbooaaA
import Derived.WalkSpells
import Derived.Laws.Cover3
import Derived.Test.YtodbkbolpcbooaaBC
namespace Go.Proofs.Ytodbkbolpcbooaa
open Go.RowKit
theorem held_up4 {B g0 g k : Nat} {v0 v1 v2 v3 u : Value} {W w w' : World} (h : w.cell? ⟨g0, 0, none⟩ = some v0 ∧ w.cell? ⟨g0, 1, none⟩ = some v1 ∧ w.cell? ⟨g0, 2, none⟩ = some v2 ∧ w.cell? ⟨g0, 3, none⟩ = some v3 ∧ w.cell? ⟨g, k, none⟩ = some u ∧ g0 < w.heap.size ∧ g < w.heap.size ∧ Below B W w) (hb : Below w.heap.size w w') (hB : B ≤ g0) :
    w'.cell? ⟨g0, 0, none⟩ = some v0 ∧ w'.cell? ⟨g0, 1, none⟩ = some v1 ∧ w'.cell? ⟨g0, 2, none⟩ = some v2 ∧ w'.cell? ⟨g0, 3, none⟩ = some v3 ∧ w'.cell? ⟨g, k, none⟩ = some u ∧ g0 < w'.heap.size ∧ g < w'.heap.size ∧ Below B W w' := by
  obtain ⟨a, b, a', b', c, d, e, f⟩ := h
  exact ⟨cell_up hb d a, cell_up hb d b, cell_up hb d a', cell_up hb d b', cell_up hb e c, Nat.lt_of_lt_of_le d hb.size, Nat.lt_of_lt_of_le e hb.size, f.trans (hb.mono (by omega))⟩
def gFit (m : Mem) (c : Nat) : Bool := (m.Lists.Global.getD c []).all (fitsB m.Heap c)
def oFit (m : Mem) (k : Nat) : Bool := (m.Lists.Own.getD k []).all (fitsB m.Heap ((k % 3 : Nat) : Int))
theorem fits_yes {m : Mem} (h : ∀ c < 3, gFit m c = true ∧ ∀ w < 3, oFit m (w * 3 + c) = true) : fitsTo m 3 = true ∧ fitsOwn m 9 = true := by
  constructor
  · exact List.all_eq_true.2 fun c hc => (h c (List.mem_range.1 hc)).1
  · refine List.all_eq_true.2 fun k hk => ?_
    have hk9 := List.mem_range.1 hk
    have a := (h (k % 3) (by omega)).2 (k / 3) (by omega)
    rwa [show k / 3 * 3 + k % 3 = k by omega] at a