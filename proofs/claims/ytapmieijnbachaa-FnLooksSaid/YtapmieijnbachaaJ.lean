/-
  Slices of ints marked and held.
-/
import Derived.Test.YtapmieijnbachaaT
import Derived.Test.YtapmieijnbachaaL
import Derived.Deep.QuietTactic
import Derived.BigQuiet
import Derived.Deep.LoopGhost
import Derived.Deep.RegionHeld3
import Derived.Test.YtapmieijnbachaaN
import Derived.Test.YtapmieijnbachaaI
namespace Go.Proofs.Ytapmieijnbachaa
open Go.RowKit
theorem grown_set {w w1 : World} {g : Nat} (h : w.grownBy w1 (some g)) (o : Nat) (u : Value) : w.grownBy (w1.setCell ⟨g, o, none⟩ u) (some g) := ⟨h.os, h.tape, h.output, by simp [h.size], fun k hk hne => (Below.heap_setCell _ _ _ _ (by intro e; subst e; exact hne rfl)).trans (h.block k hk hne)⟩
def mkInt (k : Int) : Int := k

end Go.Proofs.Ytapmieijnbachaa