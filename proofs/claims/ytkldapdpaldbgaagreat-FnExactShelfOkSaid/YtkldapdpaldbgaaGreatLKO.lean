/-
  FnExactShelfOk, walked.
-/
import Derived.Test.YtkldapdpaldbgaaGreatT
import Derived.Test.YtkldapdpaldbgaaGreatL
import Derived.Deep.QuietTactic
import Derived.BigQuiet
import Derived.Deep.LoopGhost
import Derived.Deep.RegionHeld3
import Derived.Test.YtkldapdpaldbgaaGreatN
import Derived.Test.YtkldapdpaldbgaaGreatA
import Derived.WalkSpells
import Derived.Laws.Cover3
import Derived.Test.YtkldapdpaldbgaaGreatMS
import Derived.Test.YtkldapdpaldbgaaGreatKS
import Derived.Deep.CutRange
namespace Go.Proofs.YtkldapdpaldbgaaGreat
open Go.RowKit

theorem ShelfOk_implS (w : World) (H : HShelf) (x : Shelf) (h : RdShelf w w.heap.size H x) (hs : sizeShelf x ≤ 1048576) :
    Calls Tryz.prog 43 #[.agg #[.slice H.Base.Mem.Heap.Bytes.a H.Base.Mem.Heap.Bytes.len H.Base.Mem.Heap.Bytes.cap, .slice H.Base.Mem.Heap.Class.a H.Base.Mem.Heap.Class.len H.Base.Mem.Heap.Class.cap, .slice H.Base.Mem.Lists.Global.a H.Base.Mem.Lists.Global.len H.Base.Mem.Lists.Global.cap, .slice H.Base.Mem.Lists.Own.a H.Base.Mem.Lists.Own.len H.Base.Mem.Lists.Own.cap, .int .i64 x.Base.Clock.Epoch, .slice H.Base.Clock.Pins.a H.Base.Clock.Pins.len H.Base.Clock.Pins.cap, .slice H.Base.Limbo.a H.Base.Limbo.len H.Base.Limbo.cap, .slice H.Base.Haz.a H.Base.Haz.len H.Base.Haz.cap, .slice H.Cells.a H.Cells.len H.Cells.cap, .slice H.Jobs.a H.Jobs.len H.Jobs.cap, .slice H.Todo.a H.Todo.len H.Todo.cap, .slice H.Log.a H.Log.len H.Log.cap, .int .i64 x.Serial]] w fun e w' => e = .returned (.bool (shelfOkB x)) ∧ Below w.heap.size w w' := ShelfOk_impl w H x  h (by have := size_base_lls (size_shelf_base hs); omega)

theorem ShelfOk_specS (w : World) (H : HShelf) (x : Shelf) (h : RdShelf w w.heap.size H x) (hs : sizeShelf x ≤ 1048576) :
    Calls Tryz.prog 42 #[.agg #[.slice H.Base.Mem.Heap.Bytes.a H.Base.Mem.Heap.Bytes.len H.Base.Mem.Heap.Bytes.cap, .slice H.Base.Mem.Heap.Class.a H.Base.Mem.Heap.Class.len H.Base.Mem.Heap.Class.cap, .slice H.Base.Mem.Lists.Global.a H.Base.Mem.Lists.Global.len H.Base.Mem.Lists.Global.cap, .slice H.Base.Mem.Lists.Own.a H.Base.Mem.Lists.Own.len H.Base.Mem.Lists.Own.cap, .int .i64 x.Base.Clock.Epoch, .slice H.Base.Clock.Pins.a H.Base.Clock.Pins.len H.Base.Clock.Pins.cap, .slice H.Base.Limbo.a H.Base.Limbo.len H.Base.Limbo.cap, .slice H.Base.Haz.a H.Base.Haz.len H.Base.Haz.cap, .slice H.Cells.a H.Cells.len H.Cells.cap, .slice H.Jobs.a H.Jobs.len H.Jobs.cap, .slice H.Todo.a H.Todo.len H.Todo.cap, .slice H.Log.a H.Log.len H.Log.cap, .int .i64 x.Serial]] w fun e w' => e = .returned (.bool (shelfOkB x)) ∧ Below w.heap.size w w' := ShelfOk_spec w H x  h (by have := size_base_lls (size_shelf_base hs); omega) (by have := size_base_lls (size_shelf_base hs); omega) (by have := size_base_lls (size_shelf_base hs); omega)

set_option maxRecDepth 100000 in
set_option maxHeartbeats 4000000 in
theorem FnExactShelfOk_law (w : World) (K0 : HShelf) (x0 : Shelf) (h0 : RdShelf w w.heap.size K0 x0) :
    Calls Tryz.prog 10 #[.agg #[.slice K0.Base.Mem.Heap.Bytes.a K0.Base.Mem.Heap.Bytes.len K0.Base.Mem.Heap.Bytes.cap, .slice K0.Base.Mem.Heap.Class.a K0.Base.Mem.Heap.Class.len K0.Base.Mem.Heap.Class.cap, .slice K0.Base.Mem.Lists.Global.a K0.Base.Mem.Lists.Global.len K0.Base.Mem.Lists.Global.cap, .slice K0.Base.Mem.Lists.Own.a K0.Base.Mem.Lists.Own.len K0.Base.Mem.Lists.Own.cap, .int .i64 x0.Base.Clock.Epoch, .slice K0.Base.Clock.Pins.a K0.Base.Clock.Pins.len K0.Base.Clock.Pins.cap, .slice K0.Base.Limbo.a K0.Base.Limbo.len K0.Base.Limbo.cap, .slice K0.Base.Haz.a K0.Base.Haz.len K0.Base.Haz.cap, .slice K0.Cells.a K0.Cells.len K0.Cells.cap, .slice K0.Jobs.a K0.Jobs.len K0.Jobs.cap, .slice K0.Todo.a K0.Todo.len K0.Todo.cap, .slice K0.Log.a K0.Log.len K0.Log.cap, .int .i64 x0.Serial]] w fun e w' => e = .returned (.bool true) ∧ Below w.heap.size w w' := by
  by_cases hs0' : sizeShelf x0 ≤ 1048576
  case neg =>
    have HL := Hid.mk_ (leftOf_neg hs0')
    go_enter Tryz.func10, Tryz.ntmps10
    go_wp2_with fail
    have hB : Below w.heap.size w (w.alloc (.cells #[.slice K0.Base.Mem.Heap.Bytes.a K0.Base.Mem.Heap.Bytes.len K0.Base.Mem.Heap.Bytes.cap, .slice K0.Base.Mem.Heap.Class.a K0.Base.Mem.Heap.Class.len K0.Base.Mem.Heap.Class.cap, .slice K0.Base.Mem.Lists.Global.a K0.Base.Mem.Lists.Global.len K0.Base.Mem.Lists.Global.cap, .slice K0.Base.Mem.Lists.Own.a K0.Base.Mem.Lists.Own.len K0.Base.Mem.Lists.Own.cap, .int .i64 x0.Base.Clock.Epoch, .slice K0.Base.Clock.Pins.a K0.Base.Clock.Pins.len K0.Base.Clock.Pins.cap, .slice K0.Base.Limbo.a K0.Base.Limbo.len K0.Base.Limbo.cap, .slice K0.Base.Haz.a K0.Base.Haz.len K0.Base.Haz.cap, .slice K0.Cells.a K0.Cells.len K0.Cells.cap, .slice K0.Jobs.a K0.Jobs.len K0.Jobs.cap, .slice K0.Todo.a K0.Todo.len K0.Todo.cap, .slice K0.Log.a K0.Log.len K0.Log.cap, .int .i64 x0.Serial] 62)) := by repeat (first | exact Below.refl _ _ | refine Below.alloc ?_ (by simp <;> omega) _ | refine below_grow_of ?_ (by simp <;> omega) _ _ | refine Below.drew ?_ | refine below_drewN ?_ _)
    have hB0 := hB
    have b0_0 : ((w.alloc (.cells #[.slice K0.Base.Mem.Heap.Bytes.a K0.Base.Mem.Heap.Bytes.len K0.Base.Mem.Heap.Bytes.cap, .slice K0.Base.Mem.Heap.Class.a K0.Base.Mem.Heap.Class.len K0.Base.Mem.Heap.Class.cap, .slice K0.Base.Mem.Lists.Global.a K0.Base.Mem.Lists.Global.len K0.Base.Mem.Lists.Global.cap, .slice K0.Base.Mem.Lists.Own.a K0.Base.Mem.Lists.Own.len K0.Base.Mem.Lists.Own.cap, .int .i64 x0.Base.Clock.Epoch, .slice K0.Base.Clock.Pins.a K0.Base.Clock.Pins.len K0.Base.Clock.Pins.cap, .slice K0.Base.Limbo.a K0.Base.Limbo.len K0.Base.Limbo.cap, .slice K0.Base.Haz.a K0.Base.Haz.len K0.Base.Haz.cap, .slice K0.Cells.a K0.Cells.len K0.Cells.cap, .slice K0.Jobs.a K0.Jobs.len K0.Jobs.cap, .slice K0.Todo.a K0.Todo.len K0.Todo.cap, .slice K0.Log.a K0.Log.len K0.Log.cap, .int .i64 x0.Serial] 62))).cell? ⟨w.heap.size, 0, none⟩ = some (.slice K0.Base.Mem.Heap.Bytes.a K0.Base.Mem.Heap.Bytes.len K0.Base.Mem.Heap.Bytes.cap) := by simp [go_sem]
    have b0_1 : ((w.alloc (.cells #[.slice K0.Base.Mem.Heap.Bytes.a K0.Base.Mem.Heap.Bytes.len K0.Base.Mem.Heap.Bytes.cap, .slice K0.Base.Mem.Heap.Class.a K0.Base.Mem.Heap.Class.len K0.Base.Mem.Heap.Class.cap, .slice K0.Base.Mem.Lists.Global.a K0.Base.Mem.Lists.Global.len K0.Base.Mem.Lists.Global.cap, .slice K0.Base.Mem.Lists.Own.a K0.Base.Mem.Lists.Own.len K0.Base.Mem.Lists.Own.cap, .int .i64 x0.Base.Clock.Epoch, .slice K0.Base.Clock.Pins.a K0.Base.Clock.Pins.len K0.Base.Clock.Pins.cap, .slice K0.Base.Limbo.a K0.Base.Limbo.len K0.Base.Limbo.cap, .slice K0.Base.Haz.a K0.Base.Haz.len K0.Base.Haz.cap, .slice K0.Cells.a K0.Cells.len K0.Cells.cap, .slice K0.Jobs.a K0.Jobs.len K0.Jobs.cap, .slice K0.Todo.a K0.Todo.len K0.Todo.cap, .slice K0.Log.a K0.Log.len K0.Log.cap, .int .i64 x0.Serial] 62))).cell? ⟨w.heap.size, 1, none⟩ = some (.slice K0.Base.Mem.Heap.Class.a K0.Base.Mem.Heap.Class.len K0.Base.Mem.Heap.Class.cap) := by simp [go_sem]
    have b0_2 : ((w.alloc (.cells #[.slice K0.Base.Mem.Heap.Bytes.a K0.Base.Mem.Heap.Bytes.len K0.Base.Mem.Heap.Bytes.cap, .slice K0.Base.Mem.Heap.Class.a K0.Base.Mem.Heap.Class.len K0.Base.Mem.Heap.Class.cap, .slice K0.Base.Mem.Lists.Global.a K0.Base.Mem.Lists.Global.len K0.Base.Mem.Lists.Global.cap, .slice K0.Base.Mem.Lists.Own.a K0.Base.Mem.Lists.Own.len K0.Base.Mem.Lists.Own.cap, .int .i64 x0.Base.Clock.Epoch, .slice K0.Base.Clock.Pins.a K0.Base.Clock.Pins.len K0.Base.Clock.Pins.cap, .slice K0.Base.Limbo.a K0.Base.Limbo.len K0.Base.Limbo.cap, .slice K0.Base.Haz.a K0.Base.Haz.len K0.Base.Haz.cap, .slice K0.Cells.a K0.Cells.len K0.Cells.cap, .slice K0.Jobs.a K0.Jobs.len K0.Jobs.cap, .slice K0.Todo.a K0.Todo.len K0.Todo.cap, .slice K0.Log.a K0.Log.len K0.Log.cap, .int .i64 x0.Serial] 62))).cell? ⟨w.heap.size, 2, none⟩ = some (.slice K0.Base.Mem.Lists.Global.a K0.Base.Mem.Lists.Global.len K0.Base.Mem.Lists.Global.cap) := by simp [go_sem]
    have b0_3 : ((w.alloc (.cells #[.slice K0.Base.Mem.Heap.Bytes.a K0.Base.Mem.Heap.Bytes.len K0.Base.Mem.Heap.Bytes.cap, .slice K0.Base.Mem.Heap.Class.a K0.Base.Mem.Heap.Class.len K0.Base.Mem.Heap.Class.cap, .slice K0.Base.Mem.Lists.Global.a K0.Base.Mem.Lists.Global.len K0.Base.Mem.Lists.Global.cap, .slice K0.Base.Mem.Lists.Own.a K0.Base.Mem.Lists.Own.len K0.Base.Mem.Lists.Own.cap, .int .i64 x0.Base.Clock.Epoch, .slice K0.Base.Clock.Pins.a K0.Base.Clock.Pins.len K0.Base.Clock.Pins.cap, .slice K0.Base.Limbo.a K0.Base.Limbo.len K0.Base.Limbo.cap, .slice K0.Base.Haz.a K0.Base.Haz.len K0.Base.Haz.cap, .slice K0.Cells.a K0.Cells.len K0.Cells.cap, .slice K0.Jobs.a K0.Jobs.len K0.Jobs.cap, .slice K0.Todo.a K0.Todo.len K0.Todo.cap, .slice K0.Log.a K0.Log.len K0.Log.cap, .int .i64 x0.Serial] 62))).cell? ⟨w.heap.size, 3, none⟩ = some (.slice K0.Base.Mem.Lists.Own.a K0.Base.Mem.Lists.Own.len K0.Base.Mem.Lists.Own.cap) := by simp [go_sem]
    have b0_4 : ((w.alloc (.cells #[.slice K0.Base.Mem.Heap.Bytes.a K0.Base.Mem.Heap.Bytes.len K0.Base.Mem.Heap.Bytes.cap, .slice K0.Base.Mem.Heap.Class.a K0.Base.Mem.Heap.Class.len K0.Base.Mem.Heap.Class.cap, .slice K0.Base.Mem.Lists.Global.a K0.Base.Mem.Lists.Global.len K0.Base.Mem.Lists.Global.cap, .slice K0.Base.Mem.Lists.Own.a K0.Base.Mem.Lists.Own.len K0.Base.Mem.Lists.Own.cap, .int .i64 x0.Base.Clock.Epoch, .slice K0.Base.Clock.Pins.a K0.Base.Clock.Pins.len K0.Base.Clock.Pins.cap, .slice K0.Base.Limbo.a K0.Base.Limbo.len K0.Base.Limbo.cap, .slice K0.Base.Haz.a K0.Base.Haz.len K0.Base.Haz.cap, .slice K0.Cells.a K0.Cells.len K0.Cells.cap, .slice K0.Jobs.a K0.Jobs.len K0.Jobs.cap, .slice K0.Todo.a K0.Todo.len K0.Todo.cap, .slice K0.Log.a K0.Log.len K0.Log.cap, .int .i64 x0.Serial] 62))).cell? ⟨w.heap.size, 4, none⟩ = some (.int .i64 x0.Base.Clock.Epoch) := by simp [go_sem]
    have b0_5 : ((w.alloc (.cells #[.slice K0.Base.Mem.Heap.Bytes.a K0.Base.Mem.Heap.Bytes.len K0.Base.Mem.Heap.Bytes.cap, .slice K0.Base.Mem.Heap.Class.a K0.Base.Mem.Heap.Class.len K0.Base.Mem.Heap.Class.cap, .slice K0.Base.Mem.Lists.Global.a K0.Base.Mem.Lists.Global.len K0.Base.Mem.Lists.Global.cap, .slice K0.Base.Mem.Lists.Own.a K0.Base.Mem.Lists.Own.len K0.Base.Mem.Lists.Own.cap, .int .i64 x0.Base.Clock.Epoch, .slice K0.Base.Clock.Pins.a K0.Base.Clock.Pins.len K0.Base.Clock.Pins.cap, .slice K0.Base.Limbo.a K0.Base.Limbo.len K0.Base.Limbo.cap, .slice K0.Base.Haz.a K0.Base.Haz.len K0.Base.Haz.cap, .slice K0.Cells.a K0.Cells.len K0.Cells.cap, .slice K0.Jobs.a K0.Jobs.len K0.Jobs.cap, .slice K0.Todo.a K0.Todo.len K0.Todo.cap, .slice K0.Log.a K0.Log.len K0.Log.cap, .int .i64 x0.Serial] 62))).cell? ⟨w.heap.size, 5, none⟩ = some (.slice K0.Base.Clock.Pins.a K0.Base.Clock.Pins.len K0.Base.Clock.Pins.cap) := by simp [go_sem]
    have b0_6 : ((w.alloc (.cells #[.slice K0.Base.Mem.Heap.Bytes.a K0.Base.Mem.Heap.Bytes.len K0.Base.Mem.Heap.Bytes.cap, .slice K0.Base.Mem.Heap.Class.a K0.Base.Mem.Heap.Class.len K0.Base.Mem.Heap.Class.cap, .slice K0.Base.Mem.Lists.Global.a K0.Base.Mem.Lists.Global.len K0.Base.Mem.Lists.Global.cap, .slice K0.Base.Mem.Lists.Own.a K0.Base.Mem.Lists.Own.len K0.Base.Mem.Lists.Own.cap, .int .i64 x0.Base.Clock.Epoch, .slice K0.Base.Clock.Pins.a K0.Base.Clock.Pins.len K0.Base.Clock.Pins.cap, .slice K0.Base.Limbo.a K0.Base.Limbo.len K0.Base.Limbo.cap, .slice K0.Base.Haz.a K0.Base.Haz.len K0.Base.Haz.cap, .slice K0.Cells.a K0.Cells.len K0.Cells.cap, .slice K0.Jobs.a K0.Jobs.len K0.Jobs.cap, .slice K0.Todo.a K0.Todo.len K0.Todo.cap, .slice K0.Log.a K0.Log.len K0.Log.cap, .int .i64 x0.Serial] 62))).cell? ⟨w.heap.size, 6, none⟩ = some (.slice K0.Base.Limbo.a K0.Base.Limbo.len K0.Base.Limbo.cap) := by simp [go_sem]
    have b0_7 : ((w.alloc (.cells #[.slice K0.Base.Mem.Heap.Bytes.a K0.Base.Mem.Heap.Bytes.len K0.Base.Mem.Heap.Bytes.cap, .slice K0.Base.Mem.Heap.Class.a K0.Base.Mem.Heap.Class.len K0.Base.Mem.Heap.Class.cap, .slice K0.Base.Mem.Lists.Global.a K0.Base.Mem.Lists.Global.len K0.Base.Mem.Lists.Global.cap, .slice K0.Base.Mem.Lists.Own.a K0.Base.Mem.Lists.Own.len K0.Base.Mem.Lists.Own.cap, .int .i64 x0.Base.Clock.Epoch, .slice K0.Base.Clock.Pins.a K0.Base.Clock.Pins.len K0.Base.Clock.Pins.cap, .slice K0.Base.Limbo.a K0.Base.Limbo.len K0.Base.Limbo.cap, .slice K0.Base.Haz.a K0.Base.Haz.len K0.Base.Haz.cap, .slice K0.Cells.a K0.Cells.len K0.Cells.cap, .slice K0.Jobs.a K0.Jobs.len K0.Jobs.cap, .slice K0.Todo.a K0.Todo.len K0.Todo.cap, .slice K0.Log.a K0.Log.len K0.Log.cap, .int .i64 x0.Serial] 62))).cell? ⟨w.heap.size, 7, none⟩ = some (.slice K0.Base.Haz.a K0.Base.Haz.len K0.Base.Haz.cap) := by simp [go_sem]
    have b0_8 : ((w.alloc (.cells #[.slice K0.Base.Mem.Heap.Bytes.a K0.Base.Mem.Heap.Bytes.len K0.Base.Mem.Heap.Bytes.cap, .slice K0.Base.Mem.Heap.Class.a K0.Base.Mem.Heap.Class.len K0.Base.Mem.Heap.Class.cap, .slice K0.Base.Mem.Lists.Global.a K0.Base.Mem.Lists.Global.len K0.Base.Mem.Lists.Global.cap, .slice K0.Base.Mem.Lists.Own.a K0.Base.Mem.Lists.Own.len K0.Base.Mem.Lists.Own.cap, .int .i64 x0.Base.Clock.Epoch, .slice K0.Base.Clock.Pins.a K0.Base.Clock.Pins.len K0.Base.Clock.Pins.cap, .slice K0.Base.Limbo.a K0.Base.Limbo.len K0.Base.Limbo.cap, .slice K0.Base.Haz.a K0.Base.Haz.len K0.Base.Haz.cap, .slice K0.Cells.a K0.Cells.len K0.Cells.cap, .slice K0.Jobs.a K0.Jobs.len K0.Jobs.cap, .slice K0.Todo.a K0.Todo.len K0.Todo.cap, .slice K0.Log.a K0.Log.len K0.Log.cap, .int .i64 x0.Serial] 62))).cell? ⟨w.heap.size, 8, none⟩ = some (.slice K0.Cells.a K0.Cells.len K0.Cells.cap) := by simp [go_sem]
    have b0_9 : ((w.alloc (.cells #[.slice K0.Base.Mem.Heap.Bytes.a K0.Base.Mem.Heap.Bytes.len K0.Base.Mem.Heap.Bytes.cap, .slice K0.Base.Mem.Heap.Class.a K0.Base.Mem.Heap.Class.len K0.Base.Mem.Heap.Class.cap, .slice K0.Base.Mem.Lists.Global.a K0.Base.Mem.Lists.Global.len K0.Base.Mem.Lists.Global.cap, .slice K0.Base.Mem.Lists.Own.a K0.Base.Mem.Lists.Own.len K0.Base.Mem.Lists.Own.cap, .int .i64 x0.Base.Clock.Epoch, .slice K0.Base.Clock.Pins.a K0.Base.Clock.Pins.len K0.Base.Clock.Pins.cap, .slice K0.Base.Limbo.a K0.Base.Limbo.len K0.Base.Limbo.cap, .slice K0.Base.Haz.a K0.Base.Haz.len K0.Base.Haz.cap, .slice K0.Cells.a K0.Cells.len K0.Cells.cap, .slice K0.Jobs.a K0.Jobs.len K0.Jobs.cap, .slice K0.Todo.a K0.Todo.len K0.Todo.cap, .slice K0.Log.a K0.Log.len K0.Log.cap, .int .i64 x0.Serial] 62))).cell? ⟨w.heap.size, 9, none⟩ = some (.slice K0.Jobs.a K0.Jobs.len K0.Jobs.cap) := by simp [go_sem]
    have b0_10 : ((w.alloc (.cells #[.slice K0.Base.Mem.Heap.Bytes.a K0.Base.Mem.Heap.Bytes.len K0.Base.Mem.Heap.Bytes.cap, .slice K0.Base.Mem.Heap.Class.a K0.Base.Mem.Heap.Class.len K0.Base.Mem.Heap.Class.cap, .slice K0.Base.Mem.Lists.Global.a K0.Base.Mem.Lists.Global.len K0.Base.Mem.Lists.Global.cap, .slice K0.Base.Mem.Lists.Own.a K0.Base.Mem.Lists.Own.len K0.Base.Mem.Lists.Own.cap, .int .i64 x0.Base.Clock.Epoch, .slice K0.Base.Clock.Pins.a K0.Base.Clock.Pins.len K0.Base.Clock.Pins.cap, .slice K0.Base.Limbo.a K0.Base.Limbo.len K0.Base.Limbo.cap, .slice K0.Base.Haz.a K0.Base.Haz.len K0.Base.Haz.cap, .slice K0.Cells.a K0.Cells.len K0.Cells.cap, .slice K0.Jobs.a K0.Jobs.len K0.Jobs.cap, .slice K0.Todo.a K0.Todo.len K0.Todo.cap, .slice K0.Log.a K0.Log.len K0.Log.cap, .int .i64 x0.Serial] 62))).cell? ⟨w.heap.size, 10, none⟩ = some (.slice K0.Todo.a K0.Todo.len K0.Todo.cap) := by simp [go_sem]
    have b0_11 : ((w.alloc (.cells #[.slice K0.Base.Mem.Heap.Bytes.a K0.Base.Mem.Heap.Bytes.len K0.Base.Mem.Heap.Bytes.cap, .slice K0.Base.Mem.Heap.Class.a K0.Base.Mem.Heap.Class.len K0.Base.Mem.Heap.Class.cap, .slice K0.Base.Mem.Lists.Global.a K0.Base.Mem.Lists.Global.len K0.Base.Mem.Lists.Global.cap, .slice K0.Base.Mem.Lists.Own.a K0.Base.Mem.Lists.Own.len K0.Base.Mem.Lists.Own.cap, .int .i64 x0.Base.Clock.Epoch, .slice K0.Base.Clock.Pins.a K0.Base.Clock.Pins.len K0.Base.Clock.Pins.cap, .slice K0.Base.Limbo.a K0.Base.Limbo.len K0.Base.Limbo.cap, .slice K0.Base.Haz.a K0.Base.Haz.len K0.Base.Haz.cap, .slice K0.Cells.a K0.Cells.len K0.Cells.cap, .slice K0.Jobs.a K0.Jobs.len K0.Jobs.cap, .slice K0.Todo.a K0.Todo.len K0.Todo.cap, .slice K0.Log.a K0.Log.len K0.Log.cap, .int .i64 x0.Serial] 62))).cell? ⟨w.heap.size, 11, none⟩ = some (.slice K0.Log.a K0.Log.len K0.Log.cap) := by simp [go_sem]
    have b0_12 : ((w.alloc (.cells #[.slice K0.Base.Mem.Heap.Bytes.a K0.Base.Mem.Heap.Bytes.len K0.Base.Mem.Heap.Bytes.cap, .slice K0.Base.Mem.Heap.Class.a K0.Base.Mem.Heap.Class.len K0.Base.Mem.Heap.Class.cap, .slice K0.Base.Mem.Lists.Global.a K0.Base.Mem.Lists.Global.len K0.Base.Mem.Lists.Global.cap, .slice K0.Base.Mem.Lists.Own.a K0.Base.Mem.Lists.Own.len K0.Base.Mem.Lists.Own.cap, .int .i64 x0.Base.Clock.Epoch, .slice K0.Base.Clock.Pins.a K0.Base.Clock.Pins.len K0.Base.Clock.Pins.cap, .slice K0.Base.Limbo.a K0.Base.Limbo.len K0.Base.Limbo.cap, .slice K0.Base.Haz.a K0.Base.Haz.len K0.Base.Haz.cap, .slice K0.Cells.a K0.Cells.len K0.Cells.cap, .slice K0.Jobs.a K0.Jobs.len K0.Jobs.cap, .slice K0.Todo.a K0.Todo.len K0.Todo.cap, .slice K0.Log.a K0.Log.len K0.Log.cap, .int .i64 x0.Serial] 62))).cell? ⟨w.heap.size, 12, none⟩ = some (.int .i64 x0.Serial) := by simp [go_sem]
    have z0 : w.heap.size < ((w.alloc (.cells #[.slice K0.Base.Mem.Heap.Bytes.a K0.Base.Mem.Heap.Bytes.len K0.Base.Mem.Heap.Bytes.cap, .slice K0.Base.Mem.Heap.Class.a K0.Base.Mem.Heap.Class.len K0.Base.Mem.Heap.Class.cap, .slice K0.Base.Mem.Lists.Global.a K0.Base.Mem.Lists.Global.len K0.Base.Mem.Lists.Global.cap, .slice K0.Base.Mem.Lists.Own.a K0.Base.Mem.Lists.Own.len K0.Base.Mem.Lists.Own.cap, .int .i64 x0.Base.Clock.Epoch, .slice K0.Base.Clock.Pins.a K0.Base.Clock.Pins.len K0.Base.Clock.Pins.cap, .slice K0.Base.Limbo.a K0.Base.Limbo.len K0.Base.Limbo.cap, .slice K0.Base.Haz.a K0.Base.Haz.len K0.Base.Haz.cap, .slice K0.Cells.a K0.Cells.len K0.Cells.cap, .slice K0.Jobs.a K0.Jobs.len K0.Jobs.cap, .slice K0.Todo.a K0.Todo.len K0.Todo.cap, .slice K0.Log.a K0.Log.len K0.Log.cap, .int .i64 x0.Serial] 62))).heap.size := by simp <;> omega
    generalize hW : (w.alloc (.cells #[.slice K0.Base.Mem.Heap.Bytes.a K0.Base.Mem.Heap.Bytes.len K0.Base.Mem.Heap.Bytes.cap, .slice K0.Base.Mem.Heap.Class.a K0.Base.Mem.Heap.Class.len K0.Base.Mem.Heap.Class.cap, .slice K0.Base.Mem.Lists.Global.a K0.Base.Mem.Lists.Global.len K0.Base.Mem.Lists.Global.cap, .slice K0.Base.Mem.Lists.Own.a K0.Base.Mem.Lists.Own.len K0.Base.Mem.Lists.Own.cap, .int .i64 x0.Base.Clock.Epoch, .slice K0.Base.Clock.Pins.a K0.Base.Clock.Pins.len K0.Base.Clock.Pins.cap, .slice K0.Base.Limbo.a K0.Base.Limbo.len K0.Base.Limbo.cap, .slice K0.Base.Haz.a K0.Base.Haz.len K0.Base.Haz.cap, .slice K0.Cells.a K0.Cells.len K0.Cells.cap, .slice K0.Jobs.a K0.Jobs.len K0.Jobs.cap, .slice K0.Todo.a K0.Todo.len K0.Todo.cap, .slice K0.Log.a K0.Log.len K0.Log.cap, .int .i64 x0.Serial] 62)) = w0 at hB hB0 b0_0 b0_1 b0_2 b0_3 b0_4 b0_5 b0_6 b0_7 b0_8 b0_9 b0_10 b0_11 b0_12 z0 ⊢
    clear hW
    have zz0 := z0
    refine (szShelf_ct _ K0 x0 1048576 (rdShelf_up h0 hB) (by omega)).mono ?_
    rw [HL.out]
    rintro e w1 ⟨rfl, hb⟩
    replace hB := below_step0 hB hb hB.size
    have sz := hb.size
    replace b0_0 := cell_up hb z0 b0_0
    replace b0_1 := cell_up hb z0 b0_1
    replace b0_2 := cell_up hb z0 b0_2
    replace b0_3 := cell_up hb z0 b0_3
    replace b0_4 := cell_up hb z0 b0_4
    replace b0_5 := cell_up hb z0 b0_5
    replace b0_6 := cell_up hb z0 b0_6
    replace b0_7 := cell_up hb z0 b0_7
    replace b0_8 := cell_up hb z0 b0_8
    replace b0_9 := cell_up hb z0 b0_9
    replace b0_10 := cell_up hb z0 b0_10
    replace b0_11 := cell_up hb z0 b0_11
    replace b0_12 := cell_up hb z0 b0_12
    replace z0 := lt_step0 z0 hb
    clear hb
    go_wp2_with fail
    go_ret
    exact ⟨rfl, hB⟩
  obtain ⟨r0, HL0, hr0⟩ : ∃ r : Nat, Hid (leftOf 1048576 (sizeShelf x0) = (r : Int)) ∧ r + sizeShelf x0 = 1048576 := ⟨1048576 - sizeShelf x0, Hid.mk_ (by rw [leftOf_pos hs0']; omega), by omega⟩
  have hn0 := nMark_size_Shelf x0
  clear hs0'
  go_enter Tryz.func10, Tryz.ntmps10
  go_wp2_with fail
  have hB : Below w.heap.size w (w.alloc (.cells #[.slice K0.Base.Mem.Heap.Bytes.a K0.Base.Mem.Heap.Bytes.len K0.Base.Mem.Heap.Bytes.cap, .slice K0.Base.Mem.Heap.Class.a K0.Base.Mem.Heap.Class.len K0.Base.Mem.Heap.Class.cap, .slice K0.Base.Mem.Lists.Global.a K0.Base.Mem.Lists.Global.len K0.Base.Mem.Lists.Global.cap, .slice K0.Base.Mem.Lists.Own.a K0.Base.Mem.Lists.Own.len K0.Base.Mem.Lists.Own.cap, .int .i64 x0.Base.Clock.Epoch, .slice K0.Base.Clock.Pins.a K0.Base.Clock.Pins.len K0.Base.Clock.Pins.cap, .slice K0.Base.Limbo.a K0.Base.Limbo.len K0.Base.Limbo.cap, .slice K0.Base.Haz.a K0.Base.Haz.len K0.Base.Haz.cap, .slice K0.Cells.a K0.Cells.len K0.Cells.cap, .slice K0.Jobs.a K0.Jobs.len K0.Jobs.cap, .slice K0.Todo.a K0.Todo.len K0.Todo.cap, .slice K0.Log.a K0.Log.len K0.Log.cap, .int .i64 x0.Serial] 62)) := by repeat (first | exact Below.refl _ _ | refine Below.alloc ?_ (by simp <;> omega) _ | refine below_grow_of ?_ (by simp <;> omega) _ _ | refine Below.drew ?_ | refine below_drewN ?_ _)
  have hB0 := hB
  have b0_0 : ((w.alloc (.cells #[.slice K0.Base.Mem.Heap.Bytes.a K0.Base.Mem.Heap.Bytes.len K0.Base.Mem.Heap.Bytes.cap, .slice K0.Base.Mem.Heap.Class.a K0.Base.Mem.Heap.Class.len K0.Base.Mem.Heap.Class.cap, .slice K0.Base.Mem.Lists.Global.a K0.Base.Mem.Lists.Global.len K0.Base.Mem.Lists.Global.cap, .slice K0.Base.Mem.Lists.Own.a K0.Base.Mem.Lists.Own.len K0.Base.Mem.Lists.Own.cap, .int .i64 x0.Base.Clock.Epoch, .slice K0.Base.Clock.Pins.a K0.Base.Clock.Pins.len K0.Base.Clock.Pins.cap, .slice K0.Base.Limbo.a K0.Base.Limbo.len K0.Base.Limbo.cap, .slice K0.Base.Haz.a K0.Base.Haz.len K0.Base.Haz.cap, .slice K0.Cells.a K0.Cells.len K0.Cells.cap, .slice K0.Jobs.a K0.Jobs.len K0.Jobs.cap, .slice K0.Todo.a K0.Todo.len K0.Todo.cap, .slice K0.Log.a K0.Log.len K0.Log.cap, .int .i64 x0.Serial] 62))).cell? ⟨w.heap.size, 0, none⟩ = some (.slice K0.Base.Mem.Heap.Bytes.a K0.Base.Mem.Heap.Bytes.len K0.Base.Mem.Heap.Bytes.cap) := by simp [go_sem]
  have b0_1 : ((w.alloc (.cells #[.slice K0.Base.Mem.Heap.Bytes.a K0.Base.Mem.Heap.Bytes.len K0.Base.Mem.Heap.Bytes.cap, .slice K0.Base.Mem.Heap.Class.a K0.Base.Mem.Heap.Class.len K0.Base.Mem.Heap.Class.cap, .slice K0.Base.Mem.Lists.Global.a K0.Base.Mem.Lists.Global.len K0.Base.Mem.Lists.Global.cap, .slice K0.Base.Mem.Lists.Own.a K0.Base.Mem.Lists.Own.len K0.Base.Mem.Lists.Own.cap, .int .i64 x0.Base.Clock.Epoch, .slice K0.Base.Clock.Pins.a K0.Base.Clock.Pins.len K0.Base.Clock.Pins.cap, .slice K0.Base.Limbo.a K0.Base.Limbo.len K0.Base.Limbo.cap, .slice K0.Base.Haz.a K0.Base.Haz.len K0.Base.Haz.cap, .slice K0.Cells.a K0.Cells.len K0.Cells.cap, .slice K0.Jobs.a K0.Jobs.len K0.Jobs.cap, .slice K0.Todo.a K0.Todo.len K0.Todo.cap, .slice K0.Log.a K0.Log.len K0.Log.cap, .int .i64 x0.Serial] 62))).cell? ⟨w.heap.size, 1, none⟩ = some (.slice K0.Base.Mem.Heap.Class.a K0.Base.Mem.Heap.Class.len K0.Base.Mem.Heap.Class.cap) := by simp [go_sem]
  have b0_2 : ((w.alloc (.cells #[.slice K0.Base.Mem.Heap.Bytes.a K0.Base.Mem.Heap.Bytes.len K0.Base.Mem.Heap.Bytes.cap, .slice K0.Base.Mem.Heap.Class.a K0.Base.Mem.Heap.Class.len K0.Base.Mem.Heap.Class.cap, .slice K0.Base.Mem.Lists.Global.a K0.Base.Mem.Lists.Global.len K0.Base.Mem.Lists.Global.cap, .slice K0.Base.Mem.Lists.Own.a K0.Base.Mem.Lists.Own.len K0.Base.Mem.Lists.Own.cap, .int .i64 x0.Base.Clock.Epoch, .slice K0.Base.Clock.Pins.a K0.Base.Clock.Pins.len K0.Base.Clock.Pins.cap, .slice K0.Base.Limbo.a K0.Base.Limbo.len K0.Base.Limbo.cap, .slice K0.Base.Haz.a K0.Base.Haz.len K0.Base.Haz.cap, .slice K0.Cells.a K0.Cells.len K0.Cells.cap, .slice K0.Jobs.a K0.Jobs.len K0.Jobs.cap, .slice K0.Todo.a K0.Todo.len K0.Todo.cap, .slice K0.Log.a K0.Log.len K0.Log.cap, .int .i64 x0.Serial] 62))).cell? ⟨w.heap.size, 2, none⟩ = some (.slice K0.Base.Mem.Lists.Global.a K0.Base.Mem.Lists.Global.len K0.Base.Mem.Lists.Global.cap) := by simp [go_sem]
  have b0_3 : ((w.alloc (.cells #[.slice K0.Base.Mem.Heap.Bytes.a K0.Base.Mem.Heap.Bytes.len K0.Base.Mem.Heap.Bytes.cap, .slice K0.Base.Mem.Heap.Class.a K0.Base.Mem.Heap.Class.len K0.Base.Mem.Heap.Class.cap, .slice K0.Base.Mem.Lists.Global.a K0.Base.Mem.Lists.Global.len K0.Base.Mem.Lists.Global.cap, .slice K0.Base.Mem.Lists.Own.a K0.Base.Mem.Lists.Own.len K0.Base.Mem.Lists.Own.cap, .int .i64 x0.Base.Clock.Epoch, .slice K0.Base.Clock.Pins.a K0.Base.Clock.Pins.len K0.Base.Clock.Pins.cap, .slice K0.Base.Limbo.a K0.Base.Limbo.len K0.Base.Limbo.cap, .slice K0.Base.Haz.a K0.Base.Haz.len K0.Base.Haz.cap, .slice K0.Cells.a K0.Cells.len K0.Cells.cap, .slice K0.Jobs.a K0.Jobs.len K0.Jobs.cap, .slice K0.Todo.a K0.Todo.len K0.Todo.cap, .slice K0.Log.a K0.Log.len K0.Log.cap, .int .i64 x0.Serial] 62))).cell? ⟨w.heap.size, 3, none⟩ = some (.slice K0.Base.Mem.Lists.Own.a K0.Base.Mem.Lists.Own.len K0.Base.Mem.Lists.Own.cap) := by simp [go_sem]
  have b0_4 : ((w.alloc (.cells #[.slice K0.Base.Mem.Heap.Bytes.a K0.Base.Mem.Heap.Bytes.len K0.Base.Mem.Heap.Bytes.cap, .slice K0.Base.Mem.Heap.Class.a K0.Base.Mem.Heap.Class.len K0.Base.Mem.Heap.Class.cap, .slice K0.Base.Mem.Lists.Global.a K0.Base.Mem.Lists.Global.len K0.Base.Mem.Lists.Global.cap, .slice K0.Base.Mem.Lists.Own.a K0.Base.Mem.Lists.Own.len K0.Base.Mem.Lists.Own.cap, .int .i64 x0.Base.Clock.Epoch, .slice K0.Base.Clock.Pins.a K0.Base.Clock.Pins.len K0.Base.Clock.Pins.cap, .slice K0.Base.Limbo.a K0.Base.Limbo.len K0.Base.Limbo.cap, .slice K0.Base.Haz.a K0.Base.Haz.len K0.Base.Haz.cap, .slice K0.Cells.a K0.Cells.len K0.Cells.cap, .slice K0.Jobs.a K0.Jobs.len K0.Jobs.cap, .slice K0.Todo.a K0.Todo.len K0.Todo.cap, .slice K0.Log.a K0.Log.len K0.Log.cap, .int .i64 x0.Serial] 62))).cell? ⟨w.heap.size, 4, none⟩ = some (.int .i64 x0.Base.Clock.Epoch) := by simp [go_sem]
  have b0_5 : ((w.alloc (.cells #[.slice K0.Base.Mem.Heap.Bytes.a K0.Base.Mem.Heap.Bytes.len K0.Base.Mem.Heap.Bytes.cap, .slice K0.Base.Mem.Heap.Class.a K0.Base.Mem.Heap.Class.len K0.Base.Mem.Heap.Class.cap, .slice K0.Base.Mem.Lists.Global.a K0.Base.Mem.Lists.Global.len K0.Base.Mem.Lists.Global.cap, .slice K0.Base.Mem.Lists.Own.a K0.Base.Mem.Lists.Own.len K0.Base.Mem.Lists.Own.cap, .int .i64 x0.Base.Clock.Epoch, .slice K0.Base.Clock.Pins.a K0.Base.Clock.Pins.len K0.Base.Clock.Pins.cap, .slice K0.Base.Limbo.a K0.Base.Limbo.len K0.Base.Limbo.cap, .slice K0.Base.Haz.a K0.Base.Haz.len K0.Base.Haz.cap, .slice K0.Cells.a K0.Cells.len K0.Cells.cap, .slice K0.Jobs.a K0.Jobs.len K0.Jobs.cap, .slice K0.Todo.a K0.Todo.len K0.Todo.cap, .slice K0.Log.a K0.Log.len K0.Log.cap, .int .i64 x0.Serial] 62))).cell? ⟨w.heap.size, 5, none⟩ = some (.slice K0.Base.Clock.Pins.a K0.Base.Clock.Pins.len K0.Base.Clock.Pins.cap) := by simp [go_sem]
  have b0_6 : ((w.alloc (.cells #[.slice K0.Base.Mem.Heap.Bytes.a K0.Base.Mem.Heap.Bytes.len K0.Base.Mem.Heap.Bytes.cap, .slice K0.Base.Mem.Heap.Class.a K0.Base.Mem.Heap.Class.len K0.Base.Mem.Heap.Class.cap, .slice K0.Base.Mem.Lists.Global.a K0.Base.Mem.Lists.Global.len K0.Base.Mem.Lists.Global.cap, .slice K0.Base.Mem.Lists.Own.a K0.Base.Mem.Lists.Own.len K0.Base.Mem.Lists.Own.cap, .int .i64 x0.Base.Clock.Epoch, .slice K0.Base.Clock.Pins.a K0.Base.Clock.Pins.len K0.Base.Clock.Pins.cap, .slice K0.Base.Limbo.a K0.Base.Limbo.len K0.Base.Limbo.cap, .slice K0.Base.Haz.a K0.Base.Haz.len K0.Base.Haz.cap, .slice K0.Cells.a K0.Cells.len K0.Cells.cap, .slice K0.Jobs.a K0.Jobs.len K0.Jobs.cap, .slice K0.Todo.a K0.Todo.len K0.Todo.cap, .slice K0.Log.a K0.Log.len K0.Log.cap, .int .i64 x0.Serial] 62))).cell? ⟨w.heap.size, 6, none⟩ = some (.slice K0.Base.Limbo.a K0.Base.Limbo.len K0.Base.Limbo.cap) := by simp [go_sem]
  have b0_7 : ((w.alloc (.cells #[.slice K0.Base.Mem.Heap.Bytes.a K0.Base.Mem.Heap.Bytes.len K0.Base.Mem.Heap.Bytes.cap, .slice K0.Base.Mem.Heap.Class.a K0.Base.Mem.Heap.Class.len K0.Base.Mem.Heap.Class.cap, .slice K0.Base.Mem.Lists.Global.a K0.Base.Mem.Lists.Global.len K0.Base.Mem.Lists.Global.cap, .slice K0.Base.Mem.Lists.Own.a K0.Base.Mem.Lists.Own.len K0.Base.Mem.Lists.Own.cap, .int .i64 x0.Base.Clock.Epoch, .slice K0.Base.Clock.Pins.a K0.Base.Clock.Pins.len K0.Base.Clock.Pins.cap, .slice K0.Base.Limbo.a K0.Base.Limbo.len K0.Base.Limbo.cap, .slice K0.Base.Haz.a K0.Base.Haz.len K0.Base.Haz.cap, .slice K0.Cells.a K0.Cells.len K0.Cells.cap, .slice K0.Jobs.a K0.Jobs.len K0.Jobs.cap, .slice K0.Todo.a K0.Todo.len K0.Todo.cap, .slice K0.Log.a K0.Log.len K0.Log.cap, .int .i64 x0.Serial] 62))).cell? ⟨w.heap.size, 7, none⟩ = some (.slice K0.Base.Haz.a K0.Base.Haz.len K0.Base.Haz.cap) := by simp [go_sem]
  have b0_8 : ((w.alloc (.cells #[.slice K0.Base.Mem.Heap.Bytes.a K0.Base.Mem.Heap.Bytes.len K0.Base.Mem.Heap.Bytes.cap, .slice K0.Base.Mem.Heap.Class.a K0.Base.Mem.Heap.Class.len K0.Base.Mem.Heap.Class.cap, .slice K0.Base.Mem.Lists.Global.a K0.Base.Mem.Lists.Global.len K0.Base.Mem.Lists.Global.cap, .slice K0.Base.Mem.Lists.Own.a K0.Base.Mem.Lists.Own.len K0.Base.Mem.Lists.Own.cap, .int .i64 x0.Base.Clock.Epoch, .slice K0.Base.Clock.Pins.a K0.Base.Clock.Pins.len K0.Base.Clock.Pins.cap, .slice K0.Base.Limbo.a K0.Base.Limbo.len K0.Base.Limbo.cap, .slice K0.Base.Haz.a K0.Base.Haz.len K0.Base.Haz.cap, .slice K0.Cells.a K0.Cells.len K0.Cells.cap, .slice K0.Jobs.a K0.Jobs.len K0.Jobs.cap, .slice K0.Todo.a K0.Todo.len K0.Todo.cap, .slice K0.Log.a K0.Log.len K0.Log.cap, .int .i64 x0.Serial] 62))).cell? ⟨w.heap.size, 8, none⟩ = some (.slice K0.Cells.a K0.Cells.len K0.Cells.cap) := by simp [go_sem]
  have b0_9 : ((w.alloc (.cells #[.slice K0.Base.Mem.Heap.Bytes.a K0.Base.Mem.Heap.Bytes.len K0.Base.Mem.Heap.Bytes.cap, .slice K0.Base.Mem.Heap.Class.a K0.Base.Mem.Heap.Class.len K0.Base.Mem.Heap.Class.cap, .slice K0.Base.Mem.Lists.Global.a K0.Base.Mem.Lists.Global.len K0.Base.Mem.Lists.Global.cap, .slice K0.Base.Mem.Lists.Own.a K0.Base.Mem.Lists.Own.len K0.Base.Mem.Lists.Own.cap, .int .i64 x0.Base.Clock.Epoch, .slice K0.Base.Clock.Pins.a K0.Base.Clock.Pins.len K0.Base.Clock.Pins.cap, .slice K0.Base.Limbo.a K0.Base.Limbo.len K0.Base.Limbo.cap, .slice K0.Base.Haz.a K0.Base.Haz.len K0.Base.Haz.cap, .slice K0.Cells.a K0.Cells.len K0.Cells.cap, .slice K0.Jobs.a K0.Jobs.len K0.Jobs.cap, .slice K0.Todo.a K0.Todo.len K0.Todo.cap, .slice K0.Log.a K0.Log.len K0.Log.cap, .int .i64 x0.Serial] 62))).cell? ⟨w.heap.size, 9, none⟩ = some (.slice K0.Jobs.a K0.Jobs.len K0.Jobs.cap) := by simp [go_sem]
  have b0_10 : ((w.alloc (.cells #[.slice K0.Base.Mem.Heap.Bytes.a K0.Base.Mem.Heap.Bytes.len K0.Base.Mem.Heap.Bytes.cap, .slice K0.Base.Mem.Heap.Class.a K0.Base.Mem.Heap.Class.len K0.Base.Mem.Heap.Class.cap, .slice K0.Base.Mem.Lists.Global.a K0.Base.Mem.Lists.Global.len K0.Base.Mem.Lists.Global.cap, .slice K0.Base.Mem.Lists.Own.a K0.Base.Mem.Lists.Own.len K0.Base.Mem.Lists.Own.cap, .int .i64 x0.Base.Clock.Epoch, .slice K0.Base.Clock.Pins.a K0.Base.Clock.Pins.len K0.Base.Clock.Pins.cap, .slice K0.Base.Limbo.a K0.Base.Limbo.len K0.Base.Limbo.cap, .slice K0.Base.Haz.a K0.Base.Haz.len K0.Base.Haz.cap, .slice K0.Cells.a K0.Cells.len K0.Cells.cap, .slice K0.Jobs.a K0.Jobs.len K0.Jobs.cap, .slice K0.Todo.a K0.Todo.len K0.Todo.cap, .slice K0.Log.a K0.Log.len K0.Log.cap, .int .i64 x0.Serial] 62))).cell? ⟨w.heap.size, 10, none⟩ = some (.slice K0.Todo.a K0.Todo.len K0.Todo.cap) := by simp [go_sem]
  have b0_11 : ((w.alloc (.cells #[.slice K0.Base.Mem.Heap.Bytes.a K0.Base.Mem.Heap.Bytes.len K0.Base.Mem.Heap.Bytes.cap, .slice K0.Base.Mem.Heap.Class.a K0.Base.Mem.Heap.Class.len K0.Base.Mem.Heap.Class.cap, .slice K0.Base.Mem.Lists.Global.a K0.Base.Mem.Lists.Global.len K0.Base.Mem.Lists.Global.cap, .slice K0.Base.Mem.Lists.Own.a K0.Base.Mem.Lists.Own.len K0.Base.Mem.Lists.Own.cap, .int .i64 x0.Base.Clock.Epoch, .slice K0.Base.Clock.Pins.a K0.Base.Clock.Pins.len K0.Base.Clock.Pins.cap, .slice K0.Base.Limbo.a K0.Base.Limbo.len K0.Base.Limbo.cap, .slice K0.Base.Haz.a K0.Base.Haz.len K0.Base.Haz.cap, .slice K0.Cells.a K0.Cells.len K0.Cells.cap, .slice K0.Jobs.a K0.Jobs.len K0.Jobs.cap, .slice K0.Todo.a K0.Todo.len K0.Todo.cap, .slice K0.Log.a K0.Log.len K0.Log.cap, .int .i64 x0.Serial] 62))).cell? ⟨w.heap.size, 11, none⟩ = some (.slice K0.Log.a K0.Log.len K0.Log.cap) := by simp [go_sem]
  have b0_12 : ((w.alloc (.cells #[.slice K0.Base.Mem.Heap.Bytes.a K0.Base.Mem.Heap.Bytes.len K0.Base.Mem.Heap.Bytes.cap, .slice K0.Base.Mem.Heap.Class.a K0.Base.Mem.Heap.Class.len K0.Base.Mem.Heap.Class.cap, .slice K0.Base.Mem.Lists.Global.a K0.Base.Mem.Lists.Global.len K0.Base.Mem.Lists.Global.cap, .slice K0.Base.Mem.Lists.Own.a K0.Base.Mem.Lists.Own.len K0.Base.Mem.Lists.Own.cap, .int .i64 x0.Base.Clock.Epoch, .slice K0.Base.Clock.Pins.a K0.Base.Clock.Pins.len K0.Base.Clock.Pins.cap, .slice K0.Base.Limbo.a K0.Base.Limbo.len K0.Base.Limbo.cap, .slice K0.Base.Haz.a K0.Base.Haz.len K0.Base.Haz.cap, .slice K0.Cells.a K0.Cells.len K0.Cells.cap, .slice K0.Jobs.a K0.Jobs.len K0.Jobs.cap, .slice K0.Todo.a K0.Todo.len K0.Todo.cap, .slice K0.Log.a K0.Log.len K0.Log.cap, .int .i64 x0.Serial] 62))).cell? ⟨w.heap.size, 12, none⟩ = some (.int .i64 x0.Serial) := by simp [go_sem]
  have z0 : w.heap.size < ((w.alloc (.cells #[.slice K0.Base.Mem.Heap.Bytes.a K0.Base.Mem.Heap.Bytes.len K0.Base.Mem.Heap.Bytes.cap, .slice K0.Base.Mem.Heap.Class.a K0.Base.Mem.Heap.Class.len K0.Base.Mem.Heap.Class.cap, .slice K0.Base.Mem.Lists.Global.a K0.Base.Mem.Lists.Global.len K0.Base.Mem.Lists.Global.cap, .slice K0.Base.Mem.Lists.Own.a K0.Base.Mem.Lists.Own.len K0.Base.Mem.Lists.Own.cap, .int .i64 x0.Base.Clock.Epoch, .slice K0.Base.Clock.Pins.a K0.Base.Clock.Pins.len K0.Base.Clock.Pins.cap, .slice K0.Base.Limbo.a K0.Base.Limbo.len K0.Base.Limbo.cap, .slice K0.Base.Haz.a K0.Base.Haz.len K0.Base.Haz.cap, .slice K0.Cells.a K0.Cells.len K0.Cells.cap, .slice K0.Jobs.a K0.Jobs.len K0.Jobs.cap, .slice K0.Todo.a K0.Todo.len K0.Todo.cap, .slice K0.Log.a K0.Log.len K0.Log.cap, .int .i64 x0.Serial] 62))).heap.size := by simp <;> omega
  generalize hW : (w.alloc (.cells #[.slice K0.Base.Mem.Heap.Bytes.a K0.Base.Mem.Heap.Bytes.len K0.Base.Mem.Heap.Bytes.cap, .slice K0.Base.Mem.Heap.Class.a K0.Base.Mem.Heap.Class.len K0.Base.Mem.Heap.Class.cap, .slice K0.Base.Mem.Lists.Global.a K0.Base.Mem.Lists.Global.len K0.Base.Mem.Lists.Global.cap, .slice K0.Base.Mem.Lists.Own.a K0.Base.Mem.Lists.Own.len K0.Base.Mem.Lists.Own.cap, .int .i64 x0.Base.Clock.Epoch, .slice K0.Base.Clock.Pins.a K0.Base.Clock.Pins.len K0.Base.Clock.Pins.cap, .slice K0.Base.Limbo.a K0.Base.Limbo.len K0.Base.Limbo.cap, .slice K0.Base.Haz.a K0.Base.Haz.len K0.Base.Haz.cap, .slice K0.Cells.a K0.Cells.len K0.Cells.cap, .slice K0.Jobs.a K0.Jobs.len K0.Jobs.cap, .slice K0.Todo.a K0.Todo.len K0.Todo.cap, .slice K0.Log.a K0.Log.len K0.Log.cap, .int .i64 x0.Serial] 62)) = w0 at hB hB0 b0_0 b0_1 b0_2 b0_3 b0_4 b0_5 b0_6 b0_7 b0_8 b0_9 b0_10 b0_11 b0_12 z0 ⊢
  clear hW
  have zz0 := z0
  refine (szShelf_ct _ K0 x0 1048576 (rdShelf_up h0 hB) (by omega)).mono ?_
  rw [HL0.out]
  rintro e w1 ⟨rfl, hb⟩
  replace hB := below_step0 hB hb hB.size
  have sz := hb.size
  replace b0_0 := cell_up hb z0 b0_0
  replace b0_1 := cell_up hb z0 b0_1
  replace b0_2 := cell_up hb z0 b0_2
  replace b0_3 := cell_up hb z0 b0_3
  replace b0_4 := cell_up hb z0 b0_4
  replace b0_5 := cell_up hb z0 b0_5
  replace b0_6 := cell_up hb z0 b0_6
  replace b0_7 := cell_up hb z0 b0_7
  replace b0_8 := cell_up hb z0 b0_8
  replace b0_9 := cell_up hb z0 b0_9
  replace b0_10 := cell_up hb z0 b0_10
  replace b0_11 := cell_up hb z0 b0_11
  replace b0_12 := cell_up hb z0 b0_12
  replace z0 := lt_step0 z0 hb
  clear hb
  go_wp2_with fail
  refine (toShelf_ct _ K0 x0 (rdShelf_up h0 hB) (by omega)).mono ?_
  rintro e w2 ⟨K_a0, rfl, o_a0, lb_a0, hb⟩
  replace hB := below_step0 hB hb hB.size
  have sz := hb.size
  replace b0_0 := cell_up hb z0 b0_0
  replace b0_1 := cell_up hb z0 b0_1
  replace b0_2 := cell_up hb z0 b0_2
  replace b0_3 := cell_up hb z0 b0_3
  replace b0_4 := cell_up hb z0 b0_4
  replace b0_5 := cell_up hb z0 b0_5
  replace b0_6 := cell_up hb z0 b0_6
  replace b0_7 := cell_up hb z0 b0_7
  replace b0_8 := cell_up hb z0 b0_8
  replace b0_9 := cell_up hb z0 b0_9
  replace b0_10 := cell_up hb z0 b0_10
  replace b0_11 := cell_up hb z0 b0_11
  replace b0_12 := cell_up hb z0 b0_12
  replace z0 := lt_step0 z0 hb
  clear hb
  have ub_a0 := o_a0.lt
  go_wp2_with fail
  refine (ShelfOk_specS _ _ x0   o_a0.rd' (by omega)).mono ?_
  rintro e w3 ⟨rfl, hb⟩
  replace hB := below_step0 hB hb hB.size
  have sz := hb.size
  replace b0_0 := cell_up hb z0 b0_0
  replace b0_1 := cell_up hb z0 b0_1
  replace b0_2 := cell_up hb z0 b0_2
  replace b0_3 := cell_up hb z0 b0_3
  replace b0_4 := cell_up hb z0 b0_4
  replace b0_5 := cell_up hb z0 b0_5
  replace b0_6 := cell_up hb z0 b0_6
  replace b0_7 := cell_up hb z0 b0_7
  replace b0_8 := cell_up hb z0 b0_8
  replace b0_9 := cell_up hb z0 b0_9
  replace b0_10 := cell_up hb z0 b0_10
  replace b0_11 := cell_up hb z0 b0_11
  replace b0_12 := cell_up hb z0 b0_12
  replace z0 := lt_step0 z0 hb
  replace o_a0 := o_a0.step0 hb
  clear hb
  go_wp2_with fail
  refine (toShelf_ct _ K0 x0 (rdShelf_up h0 hB) (by omega)).mono ?_
  rintro e w4 ⟨K_x0, rfl, o_x0, lb_x0, hb⟩
  replace hB := below_step0 hB hb hB.size
  have sz := hb.size
  replace b0_0 := cell_up hb z0 b0_0
  replace b0_1 := cell_up hb z0 b0_1
  replace b0_2 := cell_up hb z0 b0_2
  replace b0_3 := cell_up hb z0 b0_3
  replace b0_4 := cell_up hb z0 b0_4
  replace b0_5 := cell_up hb z0 b0_5
  replace b0_6 := cell_up hb z0 b0_6
  replace b0_7 := cell_up hb z0 b0_7
  replace b0_8 := cell_up hb z0 b0_8
  replace b0_9 := cell_up hb z0 b0_9
  replace b0_10 := cell_up hb z0 b0_10
  replace b0_11 := cell_up hb z0 b0_11
  replace b0_12 := cell_up hb z0 b0_12
  replace z0 := lt_step0 z0 hb
  replace o_a0 := o_a0.step0 hb
  clear hb
  have ub_x0 := o_x0.lt
  go_wp2_with fail
  refine (ShelfOk_implS _ _ x0   (o_x0.alloc_ _).rd' (by omega)).mono ?_
  rintro e w5 ⟨rfl, hb⟩
  replace hB := below_step hB hb hB.size
  have sz := hb.size
  simp only [World.size_alloc] at sz
  replace b0_0 := up2 hb z0 b0_0
  replace b0_1 := up2 hb z0 b0_1
  replace b0_2 := up2 hb z0 b0_2
  replace b0_3 := up2 hb z0 b0_3
  replace b0_4 := up2 hb z0 b0_4
  replace b0_5 := up2 hb z0 b0_5
  replace b0_6 := up2 hb z0 b0_6
  replace b0_7 := up2 hb z0 b0_7
  replace b0_8 := up2 hb z0 b0_8
  replace b0_9 := up2 hb z0 b0_9
  replace b0_10 := up2 hb z0 b0_10
  replace b0_11 := up2 hb z0 b0_11
  replace b0_12 := up2 hb z0 b0_12
  replace z0 := lt_step z0 hb
  have b1_0 := new_cell hb (j := 0) rfl
  have b1_1 := new_cell hb (j := 1) rfl
  have b1_2 := new_cell hb (j := 2) rfl
  have b1_3 := new_cell hb (j := 3) rfl
  have b1_4 := new_cell hb (j := 4) rfl
  have b1_5 := new_cell hb (j := 5) rfl
  have b1_6 := new_cell hb (j := 6) rfl
  have b1_7 := new_cell hb (j := 7) rfl
  have b1_8 := new_cell hb (j := 8) rfl
  have b1_9 := new_cell hb (j := 9) rfl
  have b1_10 := new_cell hb (j := 10) rfl
  have b1_11 := new_cell hb (j := 11) rfl
  have b1_12 := new_cell hb (j := 12) rfl
  have z1 := new_lt hb
  have zz1 := z1
  replace o_a0 := o_a0.step hb
  replace o_x0 := o_x0.step hb
  clear hb
  go_upto_region 10 with (fail)
  go_cut [26] from 22 to 26 (fun r wx => r = .bool false ∧ Below w.heap.size w wx ∧ wx.cell? ⟨w.heap.size, 0, none⟩ = some (.slice K0.Base.Mem.Heap.Bytes.a K0.Base.Mem.Heap.Bytes.len K0.Base.Mem.Heap.Bytes.cap) ∧ wx.cell? ⟨w.heap.size, 1, none⟩ = some (.slice K0.Base.Mem.Heap.Class.a K0.Base.Mem.Heap.Class.len K0.Base.Mem.Heap.Class.cap) ∧ wx.cell? ⟨w.heap.size, 2, none⟩ = some (.slice K0.Base.Mem.Lists.Global.a K0.Base.Mem.Lists.Global.len K0.Base.Mem.Lists.Global.cap) ∧ wx.cell? ⟨w.heap.size, 3, none⟩ = some (.slice K0.Base.Mem.Lists.Own.a K0.Base.Mem.Lists.Own.len K0.Base.Mem.Lists.Own.cap) ∧ wx.cell? ⟨w.heap.size, 4, none⟩ = some (.int .i64 x0.Base.Clock.Epoch) ∧ wx.cell? ⟨w.heap.size, 5, none⟩ = some (.slice K0.Base.Clock.Pins.a K0.Base.Clock.Pins.len K0.Base.Clock.Pins.cap) ∧ wx.cell? ⟨w.heap.size, 6, none⟩ = some (.slice K0.Base.Limbo.a K0.Base.Limbo.len K0.Base.Limbo.cap) ∧ wx.cell? ⟨w.heap.size, 7, none⟩ = some (.slice K0.Base.Haz.a K0.Base.Haz.len K0.Base.Haz.cap) ∧ wx.cell? ⟨w.heap.size, 8, none⟩ = some (.slice K0.Cells.a K0.Cells.len K0.Cells.cap) ∧ wx.cell? ⟨w.heap.size, 9, none⟩ = some (.slice K0.Jobs.a K0.Jobs.len K0.Jobs.cap) ∧ wx.cell? ⟨w.heap.size, 10, none⟩ = some (.slice K0.Todo.a K0.Todo.len K0.Todo.cap) ∧ wx.cell? ⟨w.heap.size, 11, none⟩ = some (.slice K0.Log.a K0.Log.len K0.Log.cap) ∧ wx.cell? ⟨w.heap.size, 12, none⟩ = some (.int .i64 x0.Serial) ∧ w.heap.size < wx.heap.size ∧ wx.cell? ⟨w4.heap.size, 0, none⟩ = some (.slice K_x0.Base.Mem.Heap.Bytes.a K_x0.Base.Mem.Heap.Bytes.len K_x0.Base.Mem.Heap.Bytes.cap) ∧ wx.cell? ⟨w4.heap.size, 1, none⟩ = some (.slice K_x0.Base.Mem.Heap.Class.a K_x0.Base.Mem.Heap.Class.len K_x0.Base.Mem.Heap.Class.cap) ∧ wx.cell? ⟨w4.heap.size, 2, none⟩ = some (.slice K_x0.Base.Mem.Lists.Global.a K_x0.Base.Mem.Lists.Global.len K_x0.Base.Mem.Lists.Global.cap) ∧ wx.cell? ⟨w4.heap.size, 3, none⟩ = some (.slice K_x0.Base.Mem.Lists.Own.a K_x0.Base.Mem.Lists.Own.len K_x0.Base.Mem.Lists.Own.cap) ∧ wx.cell? ⟨w4.heap.size, 4, none⟩ = some (.int .i64 x0.Base.Clock.Epoch) ∧ wx.cell? ⟨w4.heap.size, 5, none⟩ = some (.slice K_x0.Base.Clock.Pins.a K_x0.Base.Clock.Pins.len K_x0.Base.Clock.Pins.cap) ∧ wx.cell? ⟨w4.heap.size, 6, none⟩ = some (.slice K_x0.Base.Limbo.a K_x0.Base.Limbo.len K_x0.Base.Limbo.cap) ∧ wx.cell? ⟨w4.heap.size, 7, none⟩ = some (.slice K_x0.Base.Haz.a K_x0.Base.Haz.len K_x0.Base.Haz.cap) ∧ wx.cell? ⟨w4.heap.size, 8, none⟩ = some (.slice K_x0.Cells.a K_x0.Cells.len K_x0.Cells.cap) ∧ wx.cell? ⟨w4.heap.size, 9, none⟩ = some (.slice K_x0.Jobs.a K_x0.Jobs.len K_x0.Jobs.cap) ∧ wx.cell? ⟨w4.heap.size, 10, none⟩ = some (.slice K_x0.Todo.a K_x0.Todo.len K_x0.Todo.cap) ∧ wx.cell? ⟨w4.heap.size, 11, none⟩ = some (.slice K_x0.Log.a K_x0.Log.len K_x0.Log.cap) ∧ wx.cell? ⟨w4.heap.size, 12, none⟩ = some (.int .i64 x0.Serial) ∧ w4.heap.size < wx.heap.size ∧ OwShelf wx K_x0 x0)
  case first =>
    go_region_with (first | (go_at_call 22; (first | ((with_reducible refine (toShelf_ct _ K0 x0 (rdShelf_up h0 hB) (by omega)).mono ?_); rintro e wq ⟨K_c0, rfl, o_c0, lb_c0, hb⟩) | ((with_reducible refine (toShelf_ct _ K0 x0 (rdShelf_up h0 hB.drew) (by omega)).mono ?_); rintro e wq ⟨K_c0, rfl, o_c0, lb_c0, hb⟩; replace hb := undrew hb; replace lb_c0 := fcdrew lb_c0)); replace hB := below_step0 hB hb hB.size; have sz := hb.size; replace b0_0 := cell_up hb z0 b0_0; replace b0_1 := cell_up hb z0 b0_1; replace b0_2 := cell_up hb z0 b0_2; replace b0_3 := cell_up hb z0 b0_3; replace b0_4 := cell_up hb z0 b0_4; replace b0_5 := cell_up hb z0 b0_5; replace b0_6 := cell_up hb z0 b0_6; replace b0_7 := cell_up hb z0 b0_7; replace b0_8 := cell_up hb z0 b0_8; replace b0_9 := cell_up hb z0 b0_9; replace b0_10 := cell_up hb z0 b0_10; replace b0_11 := cell_up hb z0 b0_11; replace b0_12 := cell_up hb z0 b0_12; replace z0 := lt_step0 z0 hb; replace b1_0 := cell_up hb z1 b1_0; replace b1_1 := cell_up hb z1 b1_1; replace b1_2 := cell_up hb z1 b1_2; replace b1_3 := cell_up hb z1 b1_3; replace b1_4 := cell_up hb z1 b1_4; replace b1_5 := cell_up hb z1 b1_5; replace b1_6 := cell_up hb z1 b1_6; replace b1_7 := cell_up hb z1 b1_7; replace b1_8 := cell_up hb z1 b1_8; replace b1_9 := cell_up hb z1 b1_9; replace b1_10 := cell_up hb z1 b1_10; replace b1_11 := cell_up hb z1 b1_11; replace b1_12 := cell_up hb z1 b1_12; replace z1 := lt_step0 z1 hb; replace o_a0 := o_a0.step0 hb; replace o_x0 := o_x0.step0 hb; clear hb; have ub_c0 := o_c0.lt) | (go_at_call 24; (with_reducible refine (eqShelf_ct _ _ _ _ o_x0.rd' o_c0.rd' (by omega)).mono ?_); rintro e wq ⟨rfl, hb⟩; replace hB := below_step0 hB hb hB.size; have sz := hb.size; replace b0_0 := cell_up hb z0 b0_0; replace b0_1 := cell_up hb z0 b0_1; replace b0_2 := cell_up hb z0 b0_2; replace b0_3 := cell_up hb z0 b0_3; replace b0_4 := cell_up hb z0 b0_4; replace b0_5 := cell_up hb z0 b0_5; replace b0_6 := cell_up hb z0 b0_6; replace b0_7 := cell_up hb z0 b0_7; replace b0_8 := cell_up hb z0 b0_8; replace b0_9 := cell_up hb z0 b0_9; replace b0_10 := cell_up hb z0 b0_10; replace b0_11 := cell_up hb z0 b0_11; replace b0_12 := cell_up hb z0 b0_12; replace z0 := lt_step0 z0 hb; replace b1_0 := cell_up hb z1 b1_0; replace b1_1 := cell_up hb z1 b1_1; replace b1_2 := cell_up hb z1 b1_2; replace b1_3 := cell_up hb z1 b1_3; replace b1_4 := cell_up hb z1 b1_4; replace b1_5 := cell_up hb z1 b1_5; replace b1_6 := cell_up hb z1 b1_6; replace b1_7 := cell_up hb z1 b1_7; replace b1_8 := cell_up hb z1 b1_8; replace b1_9 := cell_up hb z1 b1_9; replace b1_10 := cell_up hb z1 b1_10; replace b1_11 := cell_up hb z1 b1_11; replace b1_12 := cell_up hb z1 b1_12; replace z1 := lt_step0 z1 hb; replace o_a0 := o_a0.step0 hb; replace o_x0 := o_x0.step0 hb; replace o_c0 := o_c0.step0 hb; clear hb))
    all_goals
      go_wp2_with fail
      go_meet
      exact ⟨rfl, hB, b0_0, b0_1, b0_2, b0_3, b0_4, b0_5, b0_6, b0_7, b0_8, b0_9, b0_10, b0_11, b0_12, z0, b1_0, b1_1, b1_2, b1_3, b1_4, b1_5, b1_6, b1_7, b1_8, b1_9, b1_10, b1_11, b1_12, z1, o_x0⟩
  case rest =>
    clear hB
    clear b0_0
    clear b0_1
    clear b0_2
    clear b0_3
    clear b0_4
    clear b0_5
    clear b0_6
    clear b0_7
    clear b0_8
    clear b0_9
    clear b0_10
    clear b0_11
    clear b0_12
    clear z0
    clear b1_0
    clear b1_1
    clear b1_2
    clear b1_3
    clear b1_4
    clear b1_5
    clear b1_6
    clear b1_7
    clear b1_8
    clear b1_9
    clear b1_10
    clear b1_11
    clear b1_12
    clear z1
    clear o_x0
    obtain ⟨rfl, hB, b0_0, b0_1, b0_2, b0_3, b0_4, b0_5, b0_6, b0_7, b0_8, b0_9, b0_10, b0_11, b0_12, z0, b1_0, b1_1, b1_2, b1_3, b1_4, b1_5, b1_6, b1_7, b1_8, b1_9, b1_10, b1_11, b1_12, z1, o_x0⟩ := hcut
    go_wp2_with fail
    go_ret
    exact ⟨rfl, hB⟩
end Go.Proofs.YtkldapdpaldbgaaGreat
