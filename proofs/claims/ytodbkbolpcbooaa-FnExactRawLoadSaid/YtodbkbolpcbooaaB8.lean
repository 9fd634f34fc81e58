/-
  Lists of lists put one behind the other: slices.Grow, slices.Concat.
-/
import Derived.Test.YtodbkbolpcbooaaT
import Derived.Test.YtodbkbolpcbooaaL
import Derived.Deep.QuietTactic
import Derived.BigQuiet
import Derived.Deep.LoopGhost
import Derived.Deep.RegionHeld3
import Derived.Test.YtodbkbolpcbooaaN
import Derived.Test.YtodbkbolpcbooaaA
import Derived.WalkSpells
import Derived.Laws.Cover3
import Derived.Test.YtodbkbolpcbooaaB7
import Derived.Test.YtodbkbolpcbooaaBX
import Derived.Lib.AppendZerosOnto
import Derived.Lib.SliceRun
import Derived.Lib.Walk
namespace Go.Proofs.Ytodbkbolpcbooaa
open Go.RowKit
theorem Try.infoSL : (Try.prog.info? 240).map (fun i => (i.zero, i.size, i.bytes)) = some (some (.agg #[.slice none 0 0]), FS.n, 24) := by kernel_rfl
theorem Try.stSL : ST Try.prog FS 53 240 := ⟨Try.underlying53, .agg #[.slice none 0 0], 24, by kernel_rfl, rfl, by decide⟩
theorem below_app {w w' : World} {B : Nat} (h : Below B w w') (hB : B ≤ w.heap.size) (v : Value) (w2 : World) (hg : w'.grownBy w2 v.ownBlock) (hf : ∀ g ∈ foot1 v, B ≤ g) : Below B w w2   := h.grown hg (Nat.le_trans hB h.size) (fun k hk => hf k (mem_foot1.2 hk))