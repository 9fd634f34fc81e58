/-
  Words for the laws on clocks.
-/
import Derived.Test.YtapmieijnbachaaT
import Derived.Test.YtapmieijnbachaaL
import Derived.Deep.QuietTactic
import Derived.BigQuiet
import Derived.Deep.LoopGhost
import Derived.Deep.RegionHeld3
import Derived.Test.YtapmieijnbachaaN
import Derived.Test.YtapmieijnbachaaA
import Derived.WalkSpells
import Derived.Laws.Cover3
import Derived.Test.YtapmieijnbachaaK5
import Derived.Test.YtapmieijnbachaaCW
namespace Go.Proofs.Ytapmieijnbachaa
open Go.RowKit

theorem below_step {B : Nat} {w0 w w' : World} {o : Obj} (hB : Below B w0 w) (hb : Below (w.alloc o).heap.size (w.alloc o) w') (h : B ≤ w.heap.size) : Below B w0 w' := (hB.alloc h o).trans (hb.mono (by simp; omega))
theorem below_step0 {B : Nat} {w0 w w' : World} (hB : Below B w0 w) (hb : Below w.heap.size w w') (h : B ≤ w.heap.size) : Below B w0 w' := hB.trans (hb.mono h)
theorem new_cell {w w' : World} {cs : Array Value} {t : TypeId} {j : Nat} {v : Value} (hb : Below (w.alloc (.cells cs t)).heap.size (w.alloc (.cells cs t)) w') (h : cs[j]? = some v) : w'.cell? ⟨w.heap.size, j, none⟩ = some v := by
  refine cell_up hb (by simp) ?_
  rw [cell_of_row _ _ _ _ _ _ (heap_alloc_new w _)]
  exact h
theorem OwL.step {α : Type} {T : FT α} {e : TypeId} {w w' : World} {o : Obj} {v : Value} {l : List α} (h : OwL T e w v l) (hb : Below (w.alloc o).heap.size (w.alloc o) w') : OwL T e w' v l := (h.alloc_ o).keep (fun g hg => hb.block g (foot_lt (h.alloc_ o) g (mem_foot1.2 hg)))
theorem OwL.step0 {α : Type} {T : FT α} {e : TypeId} {w w' : World} {v : Value} {l : List α} (h : OwL T e w v l) (hb : Below w.heap.size w w') : OwL T e w' v l := h.keep (fun g hg => hb.block g (foot_lt h g (mem_foot1.2 hg)))
theorem OwLL.step {α : Type} {T : FT α} {e E : TypeId} {w w' : World} {o : Obj} {v : Value} {s : List SV} {l : List (List α)} (h : OwLL T e E w v s l) (hb : Below (w.alloc o).heap.size (w.alloc o) w') : OwLL T e E w' v s l := (h.alloc_ o).keep (fun g hg => hb.block g ((h.alloc_ o).lt g hg))
theorem OwLL.step0 {α : Type} {T : FT α} {e E : TypeId} {w w' : World} {v : Value} {s : List SV} {l : List (List α)} (h : OwLL T e E w v s l) (hb : Below w.heap.size w w') : OwLL T e E w' v s l := h.keep (fun g hg => hb.block g (h.lt g hg))

theorem OwClock.alloc_ {w : World} {H : HClock} {x : Clock} (h : OwClock w H x) (o : Obj) : OwClock (w.alloc o) H x := h.keep fun g hg => Below.heap_alloc w o g (h.lt g hg)
theorem OwClock.step {w w' : World} {o : Obj} {H : HClock} {x : Clock} (h : OwClock w H x) (hb : Below (w.alloc o).heap.size (w.alloc o) w') : OwClock w' H x := (h.alloc_ o).keep (fun g hg => hb.block g ((h.alloc_ o).lt g hg))
theorem OwClock.step0 {w w' : World} {H : HClock} {x : Clock} (h : OwClock w H x) (hb : Below w.heap.size w w') : OwClock w' H x := h.keep (fun g hg => hb.block g (h.lt g hg))
end Go.Proofs.Ytapmieijnbachaa
