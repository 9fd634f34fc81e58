/-
  Clocks compared, made, measured, marked, held.
-/
import Derived.Test.YtapmieijnbachaaT
import Derived.Test.YtapmieijnbachaaL
import Derived.Deep.QuietTactic
import Derived.BigQuiet
import Derived.Deep.LoopGhost
import Derived.Deep.RegionHeld3
import Derived.Test.YtapmieijnbachaaN
import Derived.Test.YtapmieijnbachaaA
import Derived.WalkSpells
import Derived.Laws.Cover3
import Derived.Test.YtapmieijnbachaaVC
import Derived.Test.YtapmieijnbachaaP
import Derived.Test.YtapmieijnbachaaJ
namespace Go.Proofs.Ytapmieijnbachaa
open Go.RowKit

theorem Try.infoPin : (Try.prog.info? 66).map (fun i => (i.zero, i.size, i.bytes)) = some (some (.agg #[.bool false, .int .i64 0, .bool false, .int .i64 0]), FPin.n, 32) := by kernel_rfl
end Go.Proofs.Ytapmieijnbachaa