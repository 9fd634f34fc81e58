/-
  Lists of slots: searched.
-/
import Derived.Test.YtodbkbolpcbooaaT
import Derived.Test.YtodbkbolpcbooaaL
import Derived.Deep.QuietTactic
import Derived.BigQuiet
import Derived.Deep.LoopGhost
import Derived.Deep.RegionHeld3
import Derived.Test.YtodbkbolpcbooaaN
import Derived.Test.YtodbkbolpcbooaaA
import Derived.WalkSpells
import Derived.Laws.Cover3
import Derived.Test.YtodbkbolpcbooaaB6
namespace Go.Proofs.Ytodbkbolpcbooaa
open Go.RowKit

theorem Try.stInt : ST Try.prog FI 49 3 := ⟨Try.underlying49, .int .i64 0, 8, by kernel_rfl, rfl, by decide⟩

def onListB (l : Lists) (s : Int) : Bool := (l.Global.any fun r => r.any fun y => y == s) || (l.Own.any fun r => r.any fun y => y == s)
theorem any_flatten_ {α : Type} (p : α → Bool) (ll : List (List α)) : ll.flatten.any p = ll.any fun l => l.any p := by
  induction ll with
  | nil => rfl
  | cons a l ih => simp [ih]
def allL (l : Lists) : List Int := l.Global.flatten ++ l.Own.flatten
theorem onListB_all (l : Lists) (s : Int) : onListB l s = (allL l).any fun y => y == s := by
  unfold onListB allL
  rw [List.any_append, any_flatten_, any_flatten_]

theorem gcell {w w' : World} {r : Option Nat} (h : w.grownBy w' r) (g i : Nat) (hg : g < w.heap.size) (hn : r ≠ some g) : w'.cell? ⟨g, i, none⟩ = w.cell? ⟨g, i, none⟩ := by
  simp [World.cell?, h.block g hg (fun e => hn e.symm)]