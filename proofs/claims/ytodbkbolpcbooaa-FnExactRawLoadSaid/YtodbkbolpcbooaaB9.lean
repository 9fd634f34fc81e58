/-
  Lists valid: the reference.
-/
import Derived.Test.YtodbkbolpcbooaaT
import Derived.Test.YtodbkbolpcbooaaL
import Derived.Deep.QuietTactic
import Derived.BigQuiet
import Derived.Deep.LoopGhost
import Derived.Deep.RegionHeld3
import Derived.Test.YtodbkbolpcbooaaN
import Derived.Test.YtodbkbolpcbooaaA
import Derived.WalkSpells
import Derived.Laws.Cover3
import Derived.Test.YtodbkbolpcbooaaLP
import Derived.Test.YtodbkbolpcbooaaB8
namespace Go.Proofs.Ytodbkbolpcbooaa
open Go.RowKit
theorem RdL.pre {g off n c B : Nat} {w : World} {l : List Int} (h : RdL FI w B (.slice (some ⟨g, off, none⟩) n c) l) (m : Nat) (h1 : m ≤ l.length) : RdL FI w B (.slice (some ⟨g, off, none⟩) m c) (l.take m) := by
  have a := h.subI 0 m (by omega)
  simpa using a