/-
  SameShelf of the reference: the contract.
-/
import Derived.Test.YtdepckmjgpkjmaaT
import Derived.Test.YtdepckmjgpkjmaaL
import Derived.Deep.QuietTactic
import Derived.BigQuiet
import Derived.Deep.LoopGhost
import Derived.Deep.RegionHeld3
import Derived.Test.YtdepckmjgpkjmaaN
import Derived.Test.YtdepckmjgpkjmaaA
import Derived.WalkSpells
import Derived.Laws.Cover3
import Derived.Test.YtdepckmjgpkjmaaSS
namespace Go.Proofs.Ytdepckmjgpkjmaa
open Go.RowKit
attribute [local go_sem ↓] execLOp
attribute [local go_sem] loadResOp
attribute [local go_sem ↓] execJob
attribute [local go_sem] loadResJob
attribute [local go_sem ↓] execLEv
attribute [local go_sem] loadResEv

set_option maxRecDepth 100000 in
set_option maxHeartbeats 8000000 in
theorem SameShelf_spec (w : World) (H K : HShelf) (x y : Shelf) (h1 : RdShelf w w.heap.size H x) (h2 : RdShelf w w.heap.size K y) :
    Calls Try.prog 22 #[.agg #[.slice H.Base.Mem.Heap.Bytes.a H.Base.Mem.Heap.Bytes.len H.Base.Mem.Heap.Bytes.cap, .slice H.Base.Mem.Heap.Class.a H.Base.Mem.Heap.Class.len H.Base.Mem.Heap.Class.cap, .slice H.Base.Mem.Lists.Global.a H.Base.Mem.Lists.Global.len H.Base.Mem.Lists.Global.cap, .slice H.Base.Mem.Lists.Own.a H.Base.Mem.Lists.Own.len H.Base.Mem.Lists.Own.cap, .int .i64 x.Base.Clock.Epoch, .slice H.Base.Clock.Pins.a H.Base.Clock.Pins.len H.Base.Clock.Pins.cap, .slice H.Base.Limbo.a H.Base.Limbo.len H.Base.Limbo.cap, .slice H.Base.Haz.a H.Base.Haz.len H.Base.Haz.cap, .slice H.Cells.a H.Cells.len H.Cells.cap, .slice H.Jobs.a H.Jobs.len H.Jobs.cap, .slice H.Todo.a H.Todo.len H.Todo.cap, .slice H.Log.a H.Log.len H.Log.cap, .int .i64 x.Serial], .agg #[.slice K.Base.Mem.Heap.Bytes.a K.Base.Mem.Heap.Bytes.len K.Base.Mem.Heap.Bytes.cap, .slice K.Base.Mem.Heap.Class.a K.Base.Mem.Heap.Class.len K.Base.Mem.Heap.Class.cap, .slice K.Base.Mem.Lists.Global.a K.Base.Mem.Lists.Global.len K.Base.Mem.Lists.Global.cap, .slice K.Base.Mem.Lists.Own.a K.Base.Mem.Lists.Own.len K.Base.Mem.Lists.Own.cap, .int .i64 y.Base.Clock.Epoch, .slice K.Base.Clock.Pins.a K.Base.Clock.Pins.len K.Base.Clock.Pins.cap, .slice K.Base.Limbo.a K.Base.Limbo.len K.Base.Limbo.cap, .slice K.Base.Haz.a K.Base.Haz.len K.Base.Haz.cap, .slice K.Cells.a K.Cells.len K.Cells.cap, .slice K.Jobs.a K.Jobs.len K.Jobs.cap, .slice K.Todo.a K.Todo.len K.Todo.cap, .slice K.Log.a K.Log.len K.Log.cap, .int .i64 y.Serial]] w fun e w' => e = .returned (.bool (sameShelfB x y)) ∧ Below w.heap.size w w' := by
  have k0 := fun (W : World) (hW : Below w.heap.size w W) => SameBase_spec W H.Base K.Base x.Base y.Base (rdBase_up h1.Base hW) (rdBase_up h2.Base hW)
  have k1 := fun (W : World) (hW : Below w.heap.size w W) => SameBytes_spec W _ _ x.Cells y.Cells (rd_up h1.Cells hW) (rd_up h2.Cells hW)
  have HV : Hid (sameShelfB x y = (sameBaseB x.Base y.Base && decide (x.Cells = y.Cells) && decide (x.Jobs = y.Jobs) && decide (x.Log = y.Log) && decide (x.Serial = y.Serial) && decide (x.Todo = y.Todo))) := (rfl : _ = _)
  generalize sameBaseB x.Base y.Base = c0 at k0 HV
  generalize decide (x.Cells = y.Cells) = c1 at k1 HV
  cases c0 with
  | false =>
    replace HV : Hid (sameShelfB x y = false) := HV.out.trans (by simp)
    have B_a : Box ((w.alloc (.cells #[.slice H.Base.Mem.Heap.Bytes.a H.Base.Mem.Heap.Bytes.len H.Base.Mem.Heap.Bytes.cap, .slice H.Base.Mem.Heap.Class.a H.Base.Mem.Heap.Class.len H.Base.Mem.Heap.Class.cap, .slice H.Base.Mem.Lists.Global.a H.Base.Mem.Lists.Global.len H.Base.Mem.Lists.Global.cap, .slice H.Base.Mem.Lists.Own.a H.Base.Mem.Lists.Own.len H.Base.Mem.Lists.Own.cap, .int .i64 x.Base.Clock.Epoch, .slice H.Base.Clock.Pins.a H.Base.Clock.Pins.len H.Base.Clock.Pins.cap, .slice H.Base.Limbo.a H.Base.Limbo.len H.Base.Limbo.cap, .slice H.Base.Haz.a H.Base.Haz.len H.Base.Haz.cap, .slice H.Cells.a H.Cells.len H.Cells.cap, .slice H.Jobs.a H.Jobs.len H.Jobs.cap, .slice H.Todo.a H.Todo.len H.Todo.cap, .slice H.Log.a H.Log.len H.Log.cap, .int .i64 x.Serial] 69)).alloc (.cells #[.slice K.Base.Mem.Heap.Bytes.a K.Base.Mem.Heap.Bytes.len K.Base.Mem.Heap.Bytes.cap, .slice K.Base.Mem.Heap.Class.a K.Base.Mem.Heap.Class.len K.Base.Mem.Heap.Class.cap, .slice K.Base.Mem.Lists.Global.a K.Base.Mem.Lists.Global.len K.Base.Mem.Lists.Global.cap, .slice K.Base.Mem.Lists.Own.a K.Base.Mem.Lists.Own.len K.Base.Mem.Lists.Own.cap, .int .i64 y.Base.Clock.Epoch, .slice K.Base.Clock.Pins.a K.Base.Clock.Pins.len K.Base.Clock.Pins.cap, .slice K.Base.Limbo.a K.Base.Limbo.len K.Base.Limbo.cap, .slice K.Base.Haz.a K.Base.Haz.len K.Base.Haz.cap, .slice K.Cells.a K.Cells.len K.Cells.cap, .slice K.Jobs.a K.Jobs.len K.Jobs.cap, .slice K.Todo.a K.Todo.len K.Todo.cap, .slice K.Log.a K.Log.len K.Log.cap, .int .i64 y.Serial] 69)) (w.heap.size) [.slice H.Base.Mem.Heap.Bytes.a H.Base.Mem.Heap.Bytes.len H.Base.Mem.Heap.Bytes.cap, .slice H.Base.Mem.Heap.Class.a H.Base.Mem.Heap.Class.len H.Base.Mem.Heap.Class.cap, .slice H.Base.Mem.Lists.Global.a H.Base.Mem.Lists.Global.len H.Base.Mem.Lists.Global.cap, .slice H.Base.Mem.Lists.Own.a H.Base.Mem.Lists.Own.len H.Base.Mem.Lists.Own.cap, .int .i64 x.Base.Clock.Epoch, .slice H.Base.Clock.Pins.a H.Base.Clock.Pins.len H.Base.Clock.Pins.cap, .slice H.Base.Limbo.a H.Base.Limbo.len H.Base.Limbo.cap, .slice H.Base.Haz.a H.Base.Haz.len H.Base.Haz.cap, .slice H.Cells.a H.Cells.len H.Cells.cap, .slice H.Jobs.a H.Jobs.len H.Jobs.cap, .slice H.Todo.a H.Todo.len H.Todo.cap, .slice H.Log.a H.Log.len H.Log.cap, .int .i64 x.Serial] := by
      have hbx := Box.new w #[.slice H.Base.Mem.Heap.Bytes.a H.Base.Mem.Heap.Bytes.len H.Base.Mem.Heap.Bytes.cap, .slice H.Base.Mem.Heap.Class.a H.Base.Mem.Heap.Class.len H.Base.Mem.Heap.Class.cap, .slice H.Base.Mem.Lists.Global.a H.Base.Mem.Lists.Global.len H.Base.Mem.Lists.Global.cap, .slice H.Base.Mem.Lists.Own.a H.Base.Mem.Lists.Own.len H.Base.Mem.Lists.Own.cap, .int .i64 x.Base.Clock.Epoch, .slice H.Base.Clock.Pins.a H.Base.Clock.Pins.len H.Base.Clock.Pins.cap, .slice H.Base.Limbo.a H.Base.Limbo.len H.Base.Limbo.cap, .slice H.Base.Haz.a H.Base.Haz.len H.Base.Haz.cap, .slice H.Cells.a H.Cells.len H.Cells.cap, .slice H.Jobs.a H.Jobs.len H.Jobs.cap, .slice H.Todo.a H.Todo.len H.Todo.cap, .slice H.Log.a H.Log.len H.Log.cap, .int .i64 x.Serial] 69
      exact (hbx).alloc _
    have B_b : Box ((w.alloc (.cells #[.slice H.Base.Mem.Heap.Bytes.a H.Base.Mem.Heap.Bytes.len H.Base.Mem.Heap.Bytes.cap, .slice H.Base.Mem.Heap.Class.a H.Base.Mem.Heap.Class.len H.Base.Mem.Heap.Class.cap, .slice H.Base.Mem.Lists.Global.a H.Base.Mem.Lists.Global.len H.Base.Mem.Lists.Global.cap, .slice H.Base.Mem.Lists.Own.a H.Base.Mem.Lists.Own.len H.Base.Mem.Lists.Own.cap, .int .i64 x.Base.Clock.Epoch, .slice H.Base.Clock.Pins.a H.Base.Clock.Pins.len H.Base.Clock.Pins.cap, .slice H.Base.Limbo.a H.Base.Limbo.len H.Base.Limbo.cap, .slice H.Base.Haz.a H.Base.Haz.len H.Base.Haz.cap, .slice H.Cells.a H.Cells.len H.Cells.cap, .slice H.Jobs.a H.Jobs.len H.Jobs.cap, .slice H.Todo.a H.Todo.len H.Todo.cap, .slice H.Log.a H.Log.len H.Log.cap, .int .i64 x.Serial] 69)).alloc (.cells #[.slice K.Base.Mem.Heap.Bytes.a K.Base.Mem.Heap.Bytes.len K.Base.Mem.Heap.Bytes.cap, .slice K.Base.Mem.Heap.Class.a K.Base.Mem.Heap.Class.len K.Base.Mem.Heap.Class.cap, .slice K.Base.Mem.Lists.Global.a K.Base.Mem.Lists.Global.len K.Base.Mem.Lists.Global.cap, .slice K.Base.Mem.Lists.Own.a K.Base.Mem.Lists.Own.len K.Base.Mem.Lists.Own.cap, .int .i64 y.Base.Clock.Epoch, .slice K.Base.Clock.Pins.a K.Base.Clock.Pins.len K.Base.Clock.Pins.cap, .slice K.Base.Limbo.a K.Base.Limbo.len K.Base.Limbo.cap, .slice K.Base.Haz.a K.Base.Haz.len K.Base.Haz.cap, .slice K.Cells.a K.Cells.len K.Cells.cap, .slice K.Jobs.a K.Jobs.len K.Jobs.cap, .slice K.Todo.a K.Todo.len K.Todo.cap, .slice K.Log.a K.Log.len K.Log.cap, .int .i64 y.Serial] 69)) (w.heap.size + 1) [.slice K.Base.Mem.Heap.Bytes.a K.Base.Mem.Heap.Bytes.len K.Base.Mem.Heap.Bytes.cap, .slice K.Base.Mem.Heap.Class.a K.Base.Mem.Heap.Class.len K.Base.Mem.Heap.Class.cap, .slice K.Base.Mem.Lists.Global.a K.Base.Mem.Lists.Global.len K.Base.Mem.Lists.Global.cap, .slice K.Base.Mem.Lists.Own.a K.Base.Mem.Lists.Own.len K.Base.Mem.Lists.Own.cap, .int .i64 y.Base.Clock.Epoch, .slice K.Base.Clock.Pins.a K.Base.Clock.Pins.len K.Base.Clock.Pins.cap, .slice K.Base.Limbo.a K.Base.Limbo.len K.Base.Limbo.cap, .slice K.Base.Haz.a K.Base.Haz.len K.Base.Haz.cap, .slice K.Cells.a K.Cells.len K.Cells.cap, .slice K.Jobs.a K.Jobs.len K.Jobs.cap, .slice K.Todo.a K.Todo.len K.Todo.cap, .slice K.Log.a K.Log.len K.Log.cap, .int .i64 y.Serial] := by
      have hbx := Box.new (w.alloc (.cells #[.slice H.Base.Mem.Heap.Bytes.a H.Base.Mem.Heap.Bytes.len H.Base.Mem.Heap.Bytes.cap, .slice H.Base.Mem.Heap.Class.a H.Base.Mem.Heap.Class.len H.Base.Mem.Heap.Class.cap, .slice H.Base.Mem.Lists.Global.a H.Base.Mem.Lists.Global.len H.Base.Mem.Lists.Global.cap, .slice H.Base.Mem.Lists.Own.a H.Base.Mem.Lists.Own.len H.Base.Mem.Lists.Own.cap, .int .i64 x.Base.Clock.Epoch, .slice H.Base.Clock.Pins.a H.Base.Clock.Pins.len H.Base.Clock.Pins.cap, .slice H.Base.Limbo.a H.Base.Limbo.len H.Base.Limbo.cap, .slice H.Base.Haz.a H.Base.Haz.len H.Base.Haz.cap, .slice H.Cells.a H.Cells.len H.Cells.cap, .slice H.Jobs.a H.Jobs.len H.Jobs.cap, .slice H.Todo.a H.Todo.len H.Todo.cap, .slice H.Log.a H.Log.len H.Log.cap, .int .i64 x.Serial] 69)) #[.slice K.Base.Mem.Heap.Bytes.a K.Base.Mem.Heap.Bytes.len K.Base.Mem.Heap.Bytes.cap, .slice K.Base.Mem.Heap.Class.a K.Base.Mem.Heap.Class.len K.Base.Mem.Heap.Class.cap, .slice K.Base.Mem.Lists.Global.a K.Base.Mem.Lists.Global.len K.Base.Mem.Lists.Global.cap, .slice K.Base.Mem.Lists.Own.a K.Base.Mem.Lists.Own.len K.Base.Mem.Lists.Own.cap, .int .i64 y.Base.Clock.Epoch, .slice K.Base.Clock.Pins.a K.Base.Clock.Pins.len K.Base.Clock.Pins.cap, .slice K.Base.Limbo.a K.Base.Limbo.len K.Base.Limbo.cap, .slice K.Base.Haz.a K.Base.Haz.len K.Base.Haz.cap, .slice K.Cells.a K.Cells.len K.Cells.cap, .slice K.Jobs.a K.Jobs.len K.Jobs.cap, .slice K.Todo.a K.Todo.len K.Todo.cap, .slice K.Log.a K.Log.len K.Log.cap, .int .i64 y.Serial] 69
      simp only [World.size_alloc] at hbx
      exact hbx
    have hB : Below w.heap.size w ((w.alloc (.cells #[.slice H.Base.Mem.Heap.Bytes.a H.Base.Mem.Heap.Bytes.len H.Base.Mem.Heap.Bytes.cap, .slice H.Base.Mem.Heap.Class.a H.Base.Mem.Heap.Class.len H.Base.Mem.Heap.Class.cap, .slice H.Base.Mem.Lists.Global.a H.Base.Mem.Lists.Global.len H.Base.Mem.Lists.Global.cap, .slice H.Base.Mem.Lists.Own.a H.Base.Mem.Lists.Own.len H.Base.Mem.Lists.Own.cap, .int .i64 x.Base.Clock.Epoch, .slice H.Base.Clock.Pins.a H.Base.Clock.Pins.len H.Base.Clock.Pins.cap, .slice H.Base.Limbo.a H.Base.Limbo.len H.Base.Limbo.cap, .slice H.Base.Haz.a H.Base.Haz.len H.Base.Haz.cap, .slice H.Cells.a H.Cells.len H.Cells.cap, .slice H.Jobs.a H.Jobs.len H.Jobs.cap, .slice H.Todo.a H.Todo.len H.Todo.cap, .slice H.Log.a H.Log.len H.Log.cap, .int .i64 x.Serial] 69)).alloc (.cells #[.slice K.Base.Mem.Heap.Bytes.a K.Base.Mem.Heap.Bytes.len K.Base.Mem.Heap.Bytes.cap, .slice K.Base.Mem.Heap.Class.a K.Base.Mem.Heap.Class.len K.Base.Mem.Heap.Class.cap, .slice K.Base.Mem.Lists.Global.a K.Base.Mem.Lists.Global.len K.Base.Mem.Lists.Global.cap, .slice K.Base.Mem.Lists.Own.a K.Base.Mem.Lists.Own.len K.Base.Mem.Lists.Own.cap, .int .i64 y.Base.Clock.Epoch, .slice K.Base.Clock.Pins.a K.Base.Clock.Pins.len K.Base.Clock.Pins.cap, .slice K.Base.Limbo.a K.Base.Limbo.len K.Base.Limbo.cap, .slice K.Base.Haz.a K.Base.Haz.len K.Base.Haz.cap, .slice K.Cells.a K.Cells.len K.Cells.cap, .slice K.Jobs.a K.Jobs.len K.Jobs.cap, .slice K.Todo.a K.Todo.len K.Todo.cap, .slice K.Log.a K.Log.len K.Log.cap, .int .i64 y.Serial] 69)) := by repeat (first | exact Below.refl _ _ | refine Below.alloc ?_ (by simp <;> omega) _ | refine below_grow_of ?_ (by simp <;> omega) _ _ | refine Below.drew ?_ | refine below_drewN ?_ _)
    go_enter Try.func22, Try.ntmps22
    go_wp2_with fail
    generalize hW0 : ((w.alloc (.cells #[.slice H.Base.Mem.Heap.Bytes.a H.Base.Mem.Heap.Bytes.len H.Base.Mem.Heap.Bytes.cap, .slice H.Base.Mem.Heap.Class.a H.Base.Mem.Heap.Class.len H.Base.Mem.Heap.Class.cap, .slice H.Base.Mem.Lists.Global.a H.Base.Mem.Lists.Global.len H.Base.Mem.Lists.Global.cap, .slice H.Base.Mem.Lists.Own.a H.Base.Mem.Lists.Own.len H.Base.Mem.Lists.Own.cap, .int .i64 x.Base.Clock.Epoch, .slice H.Base.Clock.Pins.a H.Base.Clock.Pins.len H.Base.Clock.Pins.cap, .slice H.Base.Limbo.a H.Base.Limbo.len H.Base.Limbo.cap, .slice H.Base.Haz.a H.Base.Haz.len H.Base.Haz.cap, .slice H.Cells.a H.Cells.len H.Cells.cap, .slice H.Jobs.a H.Jobs.len H.Jobs.cap, .slice H.Todo.a H.Todo.len H.Todo.cap, .slice H.Log.a H.Log.len H.Log.cap, .int .i64 x.Serial] 69)).alloc (.cells #[.slice K.Base.Mem.Heap.Bytes.a K.Base.Mem.Heap.Bytes.len K.Base.Mem.Heap.Bytes.cap, .slice K.Base.Mem.Heap.Class.a K.Base.Mem.Heap.Class.len K.Base.Mem.Heap.Class.cap, .slice K.Base.Mem.Lists.Global.a K.Base.Mem.Lists.Global.len K.Base.Mem.Lists.Global.cap, .slice K.Base.Mem.Lists.Own.a K.Base.Mem.Lists.Own.len K.Base.Mem.Lists.Own.cap, .int .i64 y.Base.Clock.Epoch, .slice K.Base.Clock.Pins.a K.Base.Clock.Pins.len K.Base.Clock.Pins.cap, .slice K.Base.Limbo.a K.Base.Limbo.len K.Base.Limbo.cap, .slice K.Base.Haz.a K.Base.Haz.len K.Base.Haz.cap, .slice K.Cells.a K.Cells.len K.Cells.cap, .slice K.Jobs.a K.Jobs.len K.Jobs.cap, .slice K.Todo.a K.Todo.len K.Todo.cap, .slice K.Log.a K.Log.len K.Log.cap, .int .i64 y.Serial] 69)) = w0 at B_a B_b hB ⊢
    clear hW0
    have zz_a := B_a.lt
    have zz_b := B_b.lt
    have q_a_0 := B_a.cell 0 _ rfl
    have q_a_1 := B_a.cell 1 _ rfl
    have q_a_2 := B_a.cell 2 _ rfl
    have q_a_3 := B_a.cell 3 _ rfl
    have q_a_4 := B_a.cell 4 _ rfl
    have q_a_5 := B_a.cell 5 _ rfl
    have q_a_6 := B_a.cell 6 _ rfl
    have q_a_7 := B_a.cell 7 _ rfl
    have q_a_8 := B_a.cell 8 _ rfl
    have q_a_9 := B_a.cell 9 _ rfl
    have q_a_10 := B_a.cell 10 _ rfl
    have q_a_11 := B_a.cell 11 _ rfl
    have q_a_12 := B_a.cell 12 _ rfl
    have fr_a := B_a.fro
    have z_a := B_a.lt
    have q_b_0 := B_b.cell 0 _ rfl
    have q_b_1 := B_b.cell 1 _ rfl
    have q_b_2 := B_b.cell 2 _ rfl
    have q_b_3 := B_b.cell 3 _ rfl
    have q_b_4 := B_b.cell 4 _ rfl
    have q_b_5 := B_b.cell 5 _ rfl
    have q_b_6 := B_b.cell 6 _ rfl
    have q_b_7 := B_b.cell 7 _ rfl
    have q_b_8 := B_b.cell 8 _ rfl
    have q_b_9 := B_b.cell 9 _ rfl
    have q_b_10 := B_b.cell 10 _ rfl
    have q_b_11 := B_b.cell 11 _ rfl
    have q_b_12 := B_b.cell 12 _ rfl
    have fr_b := B_b.fro
    have z_b := B_b.lt
    refine (k0 _ hB).mono ?_
    rintro e w1 ⟨rfl, hb⟩
    replace B_a := B_a.below hb
    replace B_b := B_b.below hb
    replace hB := hB.trans (hb.mono hB.size)
    have sz := hb.size
    clear hb
    replace q_a_0 := B_a.cell 0 _ rfl
    replace q_a_1 := B_a.cell 1 _ rfl
    replace q_a_2 := B_a.cell 2 _ rfl
    replace q_a_3 := B_a.cell 3 _ rfl
    replace q_a_4 := B_a.cell 4 _ rfl
    replace q_a_5 := B_a.cell 5 _ rfl
    replace q_a_6 := B_a.cell 6 _ rfl
    replace q_a_7 := B_a.cell 7 _ rfl
    replace q_a_8 := B_a.cell 8 _ rfl
    replace q_a_9 := B_a.cell 9 _ rfl
    replace q_a_10 := B_a.cell 10 _ rfl
    replace q_a_11 := B_a.cell 11 _ rfl
    replace q_a_12 := B_a.cell 12 _ rfl
    replace fr_a := B_a.fro
    replace z_a := B_a.lt
    replace q_b_0 := B_b.cell 0 _ rfl
    replace q_b_1 := B_b.cell 1 _ rfl
    replace q_b_2 := B_b.cell 2 _ rfl
    replace q_b_3 := B_b.cell 3 _ rfl
    replace q_b_4 := B_b.cell 4 _ rfl
    replace q_b_5 := B_b.cell 5 _ rfl
    replace q_b_6 := B_b.cell 6 _ rfl
    replace q_b_7 := B_b.cell 7 _ rfl
    replace q_b_8 := B_b.cell 8 _ rfl
    replace q_b_9 := B_b.cell 9 _ rfl
    replace q_b_10 := B_b.cell 10 _ rfl
    replace q_b_11 := B_b.cell 11 _ rfl
    replace q_b_12 := B_b.cell 12 _ rfl
    replace fr_b := B_b.fro
    replace z_b := B_b.lt
    clear k0
    go_wp2_with fail
    go_ret
    exact ⟨ret_bool HV.out.symm, hB⟩
  | true =>
  cases c1 with
  | false =>
    replace HV : Hid (sameShelfB x y = false) := HV.out.trans (by simp)
    have B_a : Box ((w.alloc (.cells #[.slice H.Base.Mem.Heap.Bytes.a H.Base.Mem.Heap.Bytes.len H.Base.Mem.Heap.Bytes.cap, .slice H.Base.Mem.Heap.Class.a H.Base.Mem.Heap.Class.len H.Base.Mem.Heap.Class.cap, .slice H.Base.Mem.Lists.Global.a H.Base.Mem.Lists.Global.len H.Base.Mem.Lists.Global.cap, .slice H.Base.Mem.Lists.Own.a H.Base.Mem.Lists.Own.len H.Base.Mem.Lists.Own.cap, .int .i64 x.Base.Clock.Epoch, .slice H.Base.Clock.Pins.a H.Base.Clock.Pins.len H.Base.Clock.Pins.cap, .slice H.Base.Limbo.a H.Base.Limbo.len H.Base.Limbo.cap, .slice H.Base.Haz.a H.Base.Haz.len H.Base.Haz.cap, .slice H.Cells.a H.Cells.len H.Cells.cap, .slice H.Jobs.a H.Jobs.len H.Jobs.cap, .slice H.Todo.a H.Todo.len H.Todo.cap, .slice H.Log.a H.Log.len H.Log.cap, .int .i64 x.Serial] 69)).alloc (.cells #[.slice K.Base.Mem.Heap.Bytes.a K.Base.Mem.Heap.Bytes.len K.Base.Mem.Heap.Bytes.cap, .slice K.Base.Mem.Heap.Class.a K.Base.Mem.Heap.Class.len K.Base.Mem.Heap.Class.cap, .slice K.Base.Mem.Lists.Global.a K.Base.Mem.Lists.Global.len K.Base.Mem.Lists.Global.cap, .slice K.Base.Mem.Lists.Own.a K.Base.Mem.Lists.Own.len K.Base.Mem.Lists.Own.cap, .int .i64 y.Base.Clock.Epoch, .slice K.Base.Clock.Pins.a K.Base.Clock.Pins.len K.Base.Clock.Pins.cap, .slice K.Base.Limbo.a K.Base.Limbo.len K.Base.Limbo.cap, .slice K.Base.Haz.a K.Base.Haz.len K.Base.Haz.cap, .slice K.Cells.a K.Cells.len K.Cells.cap, .slice K.Jobs.a K.Jobs.len K.Jobs.cap, .slice K.Todo.a K.Todo.len K.Todo.cap, .slice K.Log.a K.Log.len K.Log.cap, .int .i64 y.Serial] 69)) (w.heap.size) [.slice H.Base.Mem.Heap.Bytes.a H.Base.Mem.Heap.Bytes.len H.Base.Mem.Heap.Bytes.cap, .slice H.Base.Mem.Heap.Class.a H.Base.Mem.Heap.Class.len H.Base.Mem.Heap.Class.cap, .slice H.Base.Mem.Lists.Global.a H.Base.Mem.Lists.Global.len H.Base.Mem.Lists.Global.cap, .slice H.Base.Mem.Lists.Own.a H.Base.Mem.Lists.Own.len H.Base.Mem.Lists.Own.cap, .int .i64 x.Base.Clock.Epoch, .slice H.Base.Clock.Pins.a H.Base.Clock.Pins.len H.Base.Clock.Pins.cap, .slice H.Base.Limbo.a H.Base.Limbo.len H.Base.Limbo.cap, .slice H.Base.Haz.a H.Base.Haz.len H.Base.Haz.cap, .slice H.Cells.a H.Cells.len H.Cells.cap, .slice H.Jobs.a H.Jobs.len H.Jobs.cap, .slice H.Todo.a H.Todo.len H.Todo.cap, .slice H.Log.a H.Log.len H.Log.cap, .int .i64 x.Serial] := by
      have hbx := Box.new w #[.slice H.Base.Mem.Heap.Bytes.a H.Base.Mem.Heap.Bytes.len H.Base.Mem.Heap.Bytes.cap, .slice H.Base.Mem.Heap.Class.a H.Base.Mem.Heap.Class.len H.Base.Mem.Heap.Class.cap, .slice H.Base.Mem.Lists.Global.a H.Base.Mem.Lists.Global.len H.Base.Mem.Lists.Global.cap, .slice H.Base.Mem.Lists.Own.a H.Base.Mem.Lists.Own.len H.Base.Mem.Lists.Own.cap, .int .i64 x.Base.Clock.Epoch, .slice H.Base.Clock.Pins.a H.Base.Clock.Pins.len H.Base.Clock.Pins.cap, .slice H.Base.Limbo.a H.Base.Limbo.len H.Base.Limbo.cap, .slice H.Base.Haz.a H.Base.Haz.len H.Base.Haz.cap, .slice H.Cells.a H.Cells.len H.Cells.cap, .slice H.Jobs.a H.Jobs.len H.Jobs.cap, .slice H.Todo.a H.Todo.len H.Todo.cap, .slice H.Log.a H.Log.len H.Log.cap, .int .i64 x.Serial] 69
      exact (hbx).alloc _
    have B_b : Box ((w.alloc (.cells #[.slice H.Base.Mem.Heap.Bytes.a H.Base.Mem.Heap.Bytes.len H.Base.Mem.Heap.Bytes.cap, .slice H.Base.Mem.Heap.Class.a H.Base.Mem.Heap.Class.len H.Base.Mem.Heap.Class.cap, .slice H.Base.Mem.Lists.Global.a H.Base.Mem.Lists.Global.len H.Base.Mem.Lists.Global.cap, .slice H.Base.Mem.Lists.Own.a H.Base.Mem.Lists.Own.len H.Base.Mem.Lists.Own.cap, .int .i64 x.Base.Clock.Epoch, .slice H.Base.Clock.Pins.a H.Base.Clock.Pins.len H.Base.Clock.Pins.cap, .slice H.Base.Limbo.a H.Base.Limbo.len H.Base.Limbo.cap, .slice H.Base.Haz.a H.Base.Haz.len H.Base.Haz.cap, .slice H.Cells.a H.Cells.len H.Cells.cap, .slice H.Jobs.a H.Jobs.len H.Jobs.cap, .slice H.Todo.a H.Todo.len H.Todo.cap, .slice H.Log.a H.Log.len H.Log.cap, .int .i64 x.Serial] 69)).alloc (.cells #[.slice K.Base.Mem.Heap.Bytes.a K.Base.Mem.Heap.Bytes.len K.Base.Mem.Heap.Bytes.cap, .slice K.Base.Mem.Heap.Class.a K.Base.Mem.Heap.Class.len K.Base.Mem.Heap.Class.cap, .slice K.Base.Mem.Lists.Global.a K.Base.Mem.Lists.Global.len K.Base.Mem.Lists.Global.cap, .slice K.Base.Mem.Lists.Own.a K.Base.Mem.Lists.Own.len K.Base.Mem.Lists.Own.cap, .int .i64 y.Base.Clock.Epoch, .slice K.Base.Clock.Pins.a K.Base.Clock.Pins.len K.Base.Clock.Pins.cap, .slice K.Base.Limbo.a K.Base.Limbo.len K.Base.Limbo.cap, .slice K.Base.Haz.a K.Base.Haz.len K.Base.Haz.cap, .slice K.Cells.a K.Cells.len K.Cells.cap, .slice K.Jobs.a K.Jobs.len K.Jobs.cap, .slice K.Todo.a K.Todo.len K.Todo.cap, .slice K.Log.a K.Log.len K.Log.cap, .int .i64 y.Serial] 69)) (w.heap.size + 1) [.slice K.Base.Mem.Heap.Bytes.a K.Base.Mem.Heap.Bytes.len K.Base.Mem.Heap.Bytes.cap, .slice K.Base.Mem.Heap.Class.a K.Base.Mem.Heap.Class.len K.Base.Mem.Heap.Class.cap, .slice K.Base.Mem.Lists.Global.a K.Base.Mem.Lists.Global.len K.Base.Mem.Lists.Global.cap, .slice K.Base.Mem.Lists.Own.a K.Base.Mem.Lists.Own.len K.Base.Mem.Lists.Own.cap, .int .i64 y.Base.Clock.Epoch, .slice K.Base.Clock.Pins.a K.Base.Clock.Pins.len K.Base.Clock.Pins.cap, .slice K.Base.Limbo.a K.Base.Limbo.len K.Base.Limbo.cap, .slice K.Base.Haz.a K.Base.Haz.len K.Base.Haz.cap, .slice K.Cells.a K.Cells.len K.Cells.cap, .slice K.Jobs.a K.Jobs.len K.Jobs.cap, .slice K.Todo.a K.Todo.len K.Todo.cap, .slice K.Log.a K.Log.len K.Log.cap, .int .i64 y.Serial] := by
      have hbx := Box.new (w.alloc (.cells #[.slice H.Base.Mem.Heap.Bytes.a H.Base.Mem.Heap.Bytes.len H.Base.Mem.Heap.Bytes.cap, .slice H.Base.Mem.Heap.Class.a H.Base.Mem.Heap.Class.len H.Base.Mem.Heap.Class.cap, .slice H.Base.Mem.Lists.Global.a H.Base.Mem.Lists.Global.len H.Base.Mem.Lists.Global.cap, .slice H.Base.Mem.Lists.Own.a H.Base.Mem.Lists.Own.len H.Base.Mem.Lists.Own.cap, .int .i64 x.Base.Clock.Epoch, .slice H.Base.Clock.Pins.a H.Base.Clock.Pins.len H.Base.Clock.Pins.cap, .slice H.Base.Limbo.a H.Base.Limbo.len H.Base.Limbo.cap, .slice H.Base.Haz.a H.Base.Haz.len H.Base.Haz.cap, .slice H.Cells.a H.Cells.len H.Cells.cap, .slice H.Jobs.a H.Jobs.len H.Jobs.cap, .slice H.Todo.a H.Todo.len H.Todo.cap, .slice H.Log.a H.Log.len H.Log.cap, .int .i64 x.Serial] 69)) #[.slice K.Base.Mem.Heap.Bytes.a K.Base.Mem.Heap.Bytes.len K.Base.Mem.Heap.Bytes.cap, .slice K.Base.Mem.Heap.Class.a K.Base.Mem.Heap.Class.len K.Base.Mem.Heap.Class.cap, .slice K.Base.Mem.Lists.Global.a K.Base.Mem.Lists.Global.len K.Base.Mem.Lists.Global.cap, .slice K.Base.Mem.Lists.Own.a K.Base.Mem.Lists.Own.len K.Base.Mem.Lists.Own.cap, .int .i64 y.Base.Clock.Epoch, .slice K.Base.Clock.Pins.a K.Base.Clock.Pins.len K.Base.Clock.Pins.cap, .slice K.Base.Limbo.a K.Base.Limbo.len K.Base.Limbo.cap, .slice K.Base.Haz.a K.Base.Haz.len K.Base.Haz.cap, .slice K.Cells.a K.Cells.len K.Cells.cap, .slice K.Jobs.a K.Jobs.len K.Jobs.cap, .slice K.Todo.a K.Todo.len K.Todo.cap, .slice K.Log.a K.Log.len K.Log.cap, .int .i64 y.Serial] 69
      simp only [World.size_alloc] at hbx
      exact hbx
    have hB : Below w.heap.size w ((w.alloc (.cells #[.slice H.Base.Mem.Heap.Bytes.a H.Base.Mem.Heap.Bytes.len H.Base.Mem.Heap.Bytes.cap, .slice H.Base.Mem.Heap.Class.a H.Base.Mem.Heap.Class.len H.Base.Mem.Heap.Class.cap, .slice H.Base.Mem.Lists.Global.a H.Base.Mem.Lists.Global.len H.Base.Mem.Lists.Global.cap, .slice H.Base.Mem.Lists.Own.a H.Base.Mem.Lists.Own.len H.Base.Mem.Lists.Own.cap, .int .i64 x.Base.Clock.Epoch, .slice H.Base.Clock.Pins.a H.Base.Clock.Pins.len H.Base.Clock.Pins.cap, .slice H.Base.Limbo.a H.Base.Limbo.len H.Base.Limbo.cap, .slice H.Base.Haz.a H.Base.Haz.len H.Base.Haz.cap, .slice H.Cells.a H.Cells.len H.Cells.cap, .slice H.Jobs.a H.Jobs.len H.Jobs.cap, .slice H.Todo.a H.Todo.len H.Todo.cap, .slice H.Log.a H.Log.len H.Log.cap, .int .i64 x.Serial] 69)).alloc (.cells #[.slice K.Base.Mem.Heap.Bytes.a K.Base.Mem.Heap.Bytes.len K.Base.Mem.Heap.Bytes.cap, .slice K.Base.Mem.Heap.Class.a K.Base.Mem.Heap.Class.len K.Base.Mem.Heap.Class.cap, .slice K.Base.Mem.Lists.Global.a K.Base.Mem.Lists.Global.len K.Base.Mem.Lists.Global.cap, .slice K.Base.Mem.Lists.Own.a K.Base.Mem.Lists.Own.len K.Base.Mem.Lists.Own.cap, .int .i64 y.Base.Clock.Epoch, .slice K.Base.Clock.Pins.a K.Base.Clock.Pins.len K.Base.Clock.Pins.cap, .slice K.Base.Limbo.a K.Base.Limbo.len K.Base.Limbo.cap, .slice K.Base.Haz.a K.Base.Haz.len K.Base.Haz.cap, .slice K.Cells.a K.Cells.len K.Cells.cap, .slice K.Jobs.a K.Jobs.len K.Jobs.cap, .slice K.Todo.a K.Todo.len K.Todo.cap, .slice K.Log.a K.Log.len K.Log.cap, .int .i64 y.Serial] 69)) := by repeat (first | exact Below.refl _ _ | refine Below.alloc ?_ (by simp <;> omega) _ | refine below_grow_of ?_ (by simp <;> omega) _ _ | refine Below.drew ?_ | refine below_drewN ?_ _)
    go_enter Try.func22, Try.ntmps22
    go_wp2_with fail
    generalize hW0 : ((w.alloc (.cells #[.slice H.Base.Mem.Heap.Bytes.a H.Base.Mem.Heap.Bytes.len H.Base.Mem.Heap.Bytes.cap, .slice H.Base.Mem.Heap.Class.a H.Base.Mem.Heap.Class.len H.Base.Mem.Heap.Class.cap, .slice H.Base.Mem.Lists.Global.a H.Base.Mem.Lists.Global.len H.Base.Mem.Lists.Global.cap, .slice H.Base.Mem.Lists.Own.a H.Base.Mem.Lists.Own.len H.Base.Mem.Lists.Own.cap, .int .i64 x.Base.Clock.Epoch, .slice H.Base.Clock.Pins.a H.Base.Clock.Pins.len H.Base.Clock.Pins.cap, .slice H.Base.Limbo.a H.Base.Limbo.len H.Base.Limbo.cap, .slice H.Base.Haz.a H.Base.Haz.len H.Base.Haz.cap, .slice H.Cells.a H.Cells.len H.Cells.cap, .slice H.Jobs.a H.Jobs.len H.Jobs.cap, .slice H.Todo.a H.Todo.len H.Todo.cap, .slice H.Log.a H.Log.len H.Log.cap, .int .i64 x.Serial] 69)).alloc (.cells #[.slice K.Base.Mem.Heap.Bytes.a K.Base.Mem.Heap.Bytes.len K.Base.Mem.Heap.Bytes.cap, .slice K.Base.Mem.Heap.Class.a K.Base.Mem.Heap.Class.len K.Base.Mem.Heap.Class.cap, .slice K.Base.Mem.Lists.Global.a K.Base.Mem.Lists.Global.len K.Base.Mem.Lists.Global.cap, .slice K.Base.Mem.Lists.Own.a K.Base.Mem.Lists.Own.len K.Base.Mem.Lists.Own.cap, .int .i64 y.Base.Clock.Epoch, .slice K.Base.Clock.Pins.a K.Base.Clock.Pins.len K.Base.Clock.Pins.cap, .slice K.Base.Limbo.a K.Base.Limbo.len K.Base.Limbo.cap, .slice K.Base.Haz.a K.Base.Haz.len K.Base.Haz.cap, .slice K.Cells.a K.Cells.len K.Cells.cap, .slice K.Jobs.a K.Jobs.len K.Jobs.cap, .slice K.Todo.a K.Todo.len K.Todo.cap, .slice K.Log.a K.Log.len K.Log.cap, .int .i64 y.Serial] 69)) = w0 at B_a B_b hB ⊢
    clear hW0
    have zz_a := B_a.lt
    have zz_b := B_b.lt
    have q_a_0 := B_a.cell 0 _ rfl
    have q_a_1 := B_a.cell 1 _ rfl
    have q_a_2 := B_a.cell 2 _ rfl
    have q_a_3 := B_a.cell 3 _ rfl
    have q_a_4 := B_a.cell 4 _ rfl
    have q_a_5 := B_a.cell 5 _ rfl
    have q_a_6 := B_a.cell 6 _ rfl
    have q_a_7 := B_a.cell 7 _ rfl
    have q_a_8 := B_a.cell 8 _ rfl
    have q_a_9 := B_a.cell 9 _ rfl
    have q_a_10 := B_a.cell 10 _ rfl
    have q_a_11 := B_a.cell 11 _ rfl
    have q_a_12 := B_a.cell 12 _ rfl
    have fr_a := B_a.fro
    have z_a := B_a.lt
    have q_b_0 := B_b.cell 0 _ rfl
    have q_b_1 := B_b.cell 1 _ rfl
    have q_b_2 := B_b.cell 2 _ rfl
    have q_b_3 := B_b.cell 3 _ rfl
    have q_b_4 := B_b.cell 4 _ rfl
    have q_b_5 := B_b.cell 5 _ rfl
    have q_b_6 := B_b.cell 6 _ rfl
    have q_b_7 := B_b.cell 7 _ rfl
    have q_b_8 := B_b.cell 8 _ rfl
    have q_b_9 := B_b.cell 9 _ rfl
    have q_b_10 := B_b.cell 10 _ rfl
    have q_b_11 := B_b.cell 11 _ rfl
    have q_b_12 := B_b.cell 12 _ rfl
    have fr_b := B_b.fro
    have z_b := B_b.lt
    refine (k0 _ hB).mono ?_
    rintro e w1 ⟨rfl, hb⟩
    replace B_a := B_a.below hb
    replace B_b := B_b.below hb
    replace hB := hB.trans (hb.mono hB.size)
    have sz := hb.size
    clear hb
    replace q_a_0 := B_a.cell 0 _ rfl
    replace q_a_1 := B_a.cell 1 _ rfl
    replace q_a_2 := B_a.cell 2 _ rfl
    replace q_a_3 := B_a.cell 3 _ rfl
    replace q_a_4 := B_a.cell 4 _ rfl
    replace q_a_5 := B_a.cell 5 _ rfl
    replace q_a_6 := B_a.cell 6 _ rfl
    replace q_a_7 := B_a.cell 7 _ rfl
    replace q_a_8 := B_a.cell 8 _ rfl
    replace q_a_9 := B_a.cell 9 _ rfl
    replace q_a_10 := B_a.cell 10 _ rfl
    replace q_a_11 := B_a.cell 11 _ rfl
    replace q_a_12 := B_a.cell 12 _ rfl
    replace fr_a := B_a.fro
    replace z_a := B_a.lt
    replace q_b_0 := B_b.cell 0 _ rfl
    replace q_b_1 := B_b.cell 1 _ rfl
    replace q_b_2 := B_b.cell 2 _ rfl
    replace q_b_3 := B_b.cell 3 _ rfl
    replace q_b_4 := B_b.cell 4 _ rfl
    replace q_b_5 := B_b.cell 5 _ rfl
    replace q_b_6 := B_b.cell 6 _ rfl
    replace q_b_7 := B_b.cell 7 _ rfl
    replace q_b_8 := B_b.cell 8 _ rfl
    replace q_b_9 := B_b.cell 9 _ rfl
    replace q_b_10 := B_b.cell 10 _ rfl
    replace q_b_11 := B_b.cell 11 _ rfl
    replace q_b_12 := B_b.cell 12 _ rfl
    replace fr_b := B_b.fro
    replace z_b := B_b.lt
    clear k0
    go_wp2_with fail
    refine (k1 _ hB).mono ?_
    rintro e w2 ⟨rfl, hb⟩
    replace B_a := B_a.below hb
    replace B_b := B_b.below hb
    replace hB := hB.trans (hb.mono hB.size)
    have sz := hb.size
    clear hb
    replace q_a_0 := B_a.cell 0 _ rfl
    replace q_a_1 := B_a.cell 1 _ rfl
    replace q_a_2 := B_a.cell 2 _ rfl
    replace q_a_3 := B_a.cell 3 _ rfl
    replace q_a_4 := B_a.cell 4 _ rfl
    replace q_a_5 := B_a.cell 5 _ rfl
    replace q_a_6 := B_a.cell 6 _ rfl
    replace q_a_7 := B_a.cell 7 _ rfl
    replace q_a_8 := B_a.cell 8 _ rfl
    replace q_a_9 := B_a.cell 9 _ rfl
    replace q_a_10 := B_a.cell 10 _ rfl
    replace q_a_11 := B_a.cell 11 _ rfl
    replace q_a_12 := B_a.cell 12 _ rfl
    replace fr_a := B_a.fro
    replace z_a := B_a.lt
    replace q_b_0 := B_b.cell 0 _ rfl
    replace q_b_1 := B_b.cell 1 _ rfl
    replace q_b_2 := B_b.cell 2 _ rfl
    replace q_b_3 := B_b.cell 3 _ rfl
    replace q_b_4 := B_b.cell 4 _ rfl
    replace q_b_5 := B_b.cell 5 _ rfl
    replace q_b_6 := B_b.cell 6 _ rfl
    replace q_b_7 := B_b.cell 7 _ rfl
    replace q_b_8 := B_b.cell 8 _ rfl
    replace q_b_9 := B_b.cell 9 _ rfl
    replace q_b_10 := B_b.cell 10 _ rfl
    replace q_b_11 := B_b.cell 11 _ rfl
    replace q_b_12 := B_b.cell 12 _ rfl
    replace fr_b := B_b.fro
    replace z_b := B_b.lt
    clear k1
    go_wp2_with fail
    go_ret
    exact ⟨ret_bool HV.out.symm, hB⟩
  | true =>
  have B_a : Box ((w.alloc (.cells #[.slice H.Base.Mem.Heap.Bytes.a H.Base.Mem.Heap.Bytes.len H.Base.Mem.Heap.Bytes.cap, .slice H.Base.Mem.Heap.Class.a H.Base.Mem.Heap.Class.len H.Base.Mem.Heap.Class.cap, .slice H.Base.Mem.Lists.Global.a H.Base.Mem.Lists.Global.len H.Base.Mem.Lists.Global.cap, .slice H.Base.Mem.Lists.Own.a H.Base.Mem.Lists.Own.len H.Base.Mem.Lists.Own.cap, .int .i64 x.Base.Clock.Epoch, .slice H.Base.Clock.Pins.a H.Base.Clock.Pins.len H.Base.Clock.Pins.cap, .slice H.Base.Limbo.a H.Base.Limbo.len H.Base.Limbo.cap, .slice H.Base.Haz.a H.Base.Haz.len H.Base.Haz.cap, .slice H.Cells.a H.Cells.len H.Cells.cap, .slice H.Jobs.a H.Jobs.len H.Jobs.cap, .slice H.Todo.a H.Todo.len H.Todo.cap, .slice H.Log.a H.Log.len H.Log.cap, .int .i64 x.Serial] 69)).alloc (.cells #[.slice K.Base.Mem.Heap.Bytes.a K.Base.Mem.Heap.Bytes.len K.Base.Mem.Heap.Bytes.cap, .slice K.Base.Mem.Heap.Class.a K.Base.Mem.Heap.Class.len K.Base.Mem.Heap.Class.cap, .slice K.Base.Mem.Lists.Global.a K.Base.Mem.Lists.Global.len K.Base.Mem.Lists.Global.cap, .slice K.Base.Mem.Lists.Own.a K.Base.Mem.Lists.Own.len K.Base.Mem.Lists.Own.cap, .int .i64 y.Base.Clock.Epoch, .slice K.Base.Clock.Pins.a K.Base.Clock.Pins.len K.Base.Clock.Pins.cap, .slice K.Base.Limbo.a K.Base.Limbo.len K.Base.Limbo.cap, .slice K.Base.Haz.a K.Base.Haz.len K.Base.Haz.cap, .slice K.Cells.a K.Cells.len K.Cells.cap, .slice K.Jobs.a K.Jobs.len K.Jobs.cap, .slice K.Todo.a K.Todo.len K.Todo.cap, .slice K.Log.a K.Log.len K.Log.cap, .int .i64 y.Serial] 69)) (w.heap.size) [.slice H.Base.Mem.Heap.Bytes.a H.Base.Mem.Heap.Bytes.len H.Base.Mem.Heap.Bytes.cap, .slice H.Base.Mem.Heap.Class.a H.Base.Mem.Heap.Class.len H.Base.Mem.Heap.Class.cap, .slice H.Base.Mem.Lists.Global.a H.Base.Mem.Lists.Global.len H.Base.Mem.Lists.Global.cap, .slice H.Base.Mem.Lists.Own.a H.Base.Mem.Lists.Own.len H.Base.Mem.Lists.Own.cap, .int .i64 x.Base.Clock.Epoch, .slice H.Base.Clock.Pins.a H.Base.Clock.Pins.len H.Base.Clock.Pins.cap, .slice H.Base.Limbo.a H.Base.Limbo.len H.Base.Limbo.cap, .slice H.Base.Haz.a H.Base.Haz.len H.Base.Haz.cap, .slice H.Cells.a H.Cells.len H.Cells.cap, .slice H.Jobs.a H.Jobs.len H.Jobs.cap, .slice H.Todo.a H.Todo.len H.Todo.cap, .slice H.Log.a H.Log.len H.Log.cap, .int .i64 x.Serial] := by
    have hbx := Box.new w #[.slice H.Base.Mem.Heap.Bytes.a H.Base.Mem.Heap.Bytes.len H.Base.Mem.Heap.Bytes.cap, .slice H.Base.Mem.Heap.Class.a H.Base.Mem.Heap.Class.len H.Base.Mem.Heap.Class.cap, .slice H.Base.Mem.Lists.Global.a H.Base.Mem.Lists.Global.len H.Base.Mem.Lists.Global.cap, .slice H.Base.Mem.Lists.Own.a H.Base.Mem.Lists.Own.len H.Base.Mem.Lists.Own.cap, .int .i64 x.Base.Clock.Epoch, .slice H.Base.Clock.Pins.a H.Base.Clock.Pins.len H.Base.Clock.Pins.cap, .slice H.Base.Limbo.a H.Base.Limbo.len H.Base.Limbo.cap, .slice H.Base.Haz.a H.Base.Haz.len H.Base.Haz.cap, .slice H.Cells.a H.Cells.len H.Cells.cap, .slice H.Jobs.a H.Jobs.len H.Jobs.cap, .slice H.Todo.a H.Todo.len H.Todo.cap, .slice H.Log.a H.Log.len H.Log.cap, .int .i64 x.Serial] 69
    exact (hbx).alloc _
  have B_b : Box ((w.alloc (.cells #[.slice H.Base.Mem.Heap.Bytes.a H.Base.Mem.Heap.Bytes.len H.Base.Mem.Heap.Bytes.cap, .slice H.Base.Mem.Heap.Class.a H.Base.Mem.Heap.Class.len H.Base.Mem.Heap.Class.cap, .slice H.Base.Mem.Lists.Global.a H.Base.Mem.Lists.Global.len H.Base.Mem.Lists.Global.cap, .slice H.Base.Mem.Lists.Own.a H.Base.Mem.Lists.Own.len H.Base.Mem.Lists.Own.cap, .int .i64 x.Base.Clock.Epoch, .slice H.Base.Clock.Pins.a H.Base.Clock.Pins.len H.Base.Clock.Pins.cap, .slice H.Base.Limbo.a H.Base.Limbo.len H.Base.Limbo.cap, .slice H.Base.Haz.a H.Base.Haz.len H.Base.Haz.cap, .slice H.Cells.a H.Cells.len H.Cells.cap, .slice H.Jobs.a H.Jobs.len H.Jobs.cap, .slice H.Todo.a H.Todo.len H.Todo.cap, .slice H.Log.a H.Log.len H.Log.cap, .int .i64 x.Serial] 69)).alloc (.cells #[.slice K.Base.Mem.Heap.Bytes.a K.Base.Mem.Heap.Bytes.len K.Base.Mem.Heap.Bytes.cap, .slice K.Base.Mem.Heap.Class.a K.Base.Mem.Heap.Class.len K.Base.Mem.Heap.Class.cap, .slice K.Base.Mem.Lists.Global.a K.Base.Mem.Lists.Global.len K.Base.Mem.Lists.Global.cap, .slice K.Base.Mem.Lists.Own.a K.Base.Mem.Lists.Own.len K.Base.Mem.Lists.Own.cap, .int .i64 y.Base.Clock.Epoch, .slice K.Base.Clock.Pins.a K.Base.Clock.Pins.len K.Base.Clock.Pins.cap, .slice K.Base.Limbo.a K.Base.Limbo.len K.Base.Limbo.cap, .slice K.Base.Haz.a K.Base.Haz.len K.Base.Haz.cap, .slice K.Cells.a K.Cells.len K.Cells.cap, .slice K.Jobs.a K.Jobs.len K.Jobs.cap, .slice K.Todo.a K.Todo.len K.Todo.cap, .slice K.Log.a K.Log.len K.Log.cap, .int .i64 y.Serial] 69)) (w.heap.size + 1) [.slice K.Base.Mem.Heap.Bytes.a K.Base.Mem.Heap.Bytes.len K.Base.Mem.Heap.Bytes.cap, .slice K.Base.Mem.Heap.Class.a K.Base.Mem.Heap.Class.len K.Base.Mem.Heap.Class.cap, .slice K.Base.Mem.Lists.Global.a K.Base.Mem.Lists.Global.len K.Base.Mem.Lists.Global.cap, .slice K.Base.Mem.Lists.Own.a K.Base.Mem.Lists.Own.len K.Base.Mem.Lists.Own.cap, .int .i64 y.Base.Clock.Epoch, .slice K.Base.Clock.Pins.a K.Base.Clock.Pins.len K.Base.Clock.Pins.cap, .slice K.Base.Limbo.a K.Base.Limbo.len K.Base.Limbo.cap, .slice K.Base.Haz.a K.Base.Haz.len K.Base.Haz.cap, .slice K.Cells.a K.Cells.len K.Cells.cap, .slice K.Jobs.a K.Jobs.len K.Jobs.cap, .slice K.Todo.a K.Todo.len K.Todo.cap, .slice K.Log.a K.Log.len K.Log.cap, .int .i64 y.Serial] := by
    have hbx := Box.new (w.alloc (.cells #[.slice H.Base.Mem.Heap.Bytes.a H.Base.Mem.Heap.Bytes.len H.Base.Mem.Heap.Bytes.cap, .slice H.Base.Mem.Heap.Class.a H.Base.Mem.Heap.Class.len H.Base.Mem.Heap.Class.cap, .slice H.Base.Mem.Lists.Global.a H.Base.Mem.Lists.Global.len H.Base.Mem.Lists.Global.cap, .slice H.Base.Mem.Lists.Own.a H.Base.Mem.Lists.Own.len H.Base.Mem.Lists.Own.cap, .int .i64 x.Base.Clock.Epoch, .slice H.Base.Clock.Pins.a H.Base.Clock.Pins.len H.Base.Clock.Pins.cap, .slice H.Base.Limbo.a H.Base.Limbo.len H.Base.Limbo.cap, .slice H.Base.Haz.a H.Base.Haz.len H.Base.Haz.cap, .slice H.Cells.a H.Cells.len H.Cells.cap, .slice H.Jobs.a H.Jobs.len H.Jobs.cap, .slice H.Todo.a H.Todo.len H.Todo.cap, .slice H.Log.a H.Log.len H.Log.cap, .int .i64 x.Serial] 69)) #[.slice K.Base.Mem.Heap.Bytes.a K.Base.Mem.Heap.Bytes.len K.Base.Mem.Heap.Bytes.cap, .slice K.Base.Mem.Heap.Class.a K.Base.Mem.Heap.Class.len K.Base.Mem.Heap.Class.cap, .slice K.Base.Mem.Lists.Global.a K.Base.Mem.Lists.Global.len K.Base.Mem.Lists.Global.cap, .slice K.Base.Mem.Lists.Own.a K.Base.Mem.Lists.Own.len K.Base.Mem.Lists.Own.cap, .int .i64 y.Base.Clock.Epoch, .slice K.Base.Clock.Pins.a K.Base.Clock.Pins.len K.Base.Clock.Pins.cap, .slice K.Base.Limbo.a K.Base.Limbo.len K.Base.Limbo.cap, .slice K.Base.Haz.a K.Base.Haz.len K.Base.Haz.cap, .slice K.Cells.a K.Cells.len K.Cells.cap, .slice K.Jobs.a K.Jobs.len K.Jobs.cap, .slice K.Todo.a K.Todo.len K.Todo.cap, .slice K.Log.a K.Log.len K.Log.cap, .int .i64 y.Serial] 69
    simp only [World.size_alloc] at hbx
    exact hbx
  have hB : Below w.heap.size w ((w.alloc (.cells #[.slice H.Base.Mem.Heap.Bytes.a H.Base.Mem.Heap.Bytes.len H.Base.Mem.Heap.Bytes.cap, .slice H.Base.Mem.Heap.Class.a H.Base.Mem.Heap.Class.len H.Base.Mem.Heap.Class.cap, .slice H.Base.Mem.Lists.Global.a H.Base.Mem.Lists.Global.len H.Base.Mem.Lists.Global.cap, .slice H.Base.Mem.Lists.Own.a H.Base.Mem.Lists.Own.len H.Base.Mem.Lists.Own.cap, .int .i64 x.Base.Clock.Epoch, .slice H.Base.Clock.Pins.a H.Base.Clock.Pins.len H.Base.Clock.Pins.cap, .slice H.Base.Limbo.a H.Base.Limbo.len H.Base.Limbo.cap, .slice H.Base.Haz.a H.Base.Haz.len H.Base.Haz.cap, .slice H.Cells.a H.Cells.len H.Cells.cap, .slice H.Jobs.a H.Jobs.len H.Jobs.cap, .slice H.Todo.a H.Todo.len H.Todo.cap, .slice H.Log.a H.Log.len H.Log.cap, .int .i64 x.Serial] 69)).alloc (.cells #[.slice K.Base.Mem.Heap.Bytes.a K.Base.Mem.Heap.Bytes.len K.Base.Mem.Heap.Bytes.cap, .slice K.Base.Mem.Heap.Class.a K.Base.Mem.Heap.Class.len K.Base.Mem.Heap.Class.cap, .slice K.Base.Mem.Lists.Global.a K.Base.Mem.Lists.Global.len K.Base.Mem.Lists.Global.cap, .slice K.Base.Mem.Lists.Own.a K.Base.Mem.Lists.Own.len K.Base.Mem.Lists.Own.cap, .int .i64 y.Base.Clock.Epoch, .slice K.Base.Clock.Pins.a K.Base.Clock.Pins.len K.Base.Clock.Pins.cap, .slice K.Base.Limbo.a K.Base.Limbo.len K.Base.Limbo.cap, .slice K.Base.Haz.a K.Base.Haz.len K.Base.Haz.cap, .slice K.Cells.a K.Cells.len K.Cells.cap, .slice K.Jobs.a K.Jobs.len K.Jobs.cap, .slice K.Todo.a K.Todo.len K.Todo.cap, .slice K.Log.a K.Log.len K.Log.cap, .int .i64 y.Serial] 69)) := by repeat (first | exact Below.refl _ _ | refine Below.alloc ?_ (by simp <;> omega) _ | refine below_grow_of ?_ (by simp <;> omega) _ _ | refine Below.drew ?_ | refine below_drewN ?_ _)
  go_enter Try.func22, Try.ntmps22
  go_wp2_with fail
  generalize hW0 : ((w.alloc (.cells #[.slice H.Base.Mem.Heap.Bytes.a H.Base.Mem.Heap.Bytes.len H.Base.Mem.Heap.Bytes.cap, .slice H.Base.Mem.Heap.Class.a H.Base.Mem.Heap.Class.len H.Base.Mem.Heap.Class.cap, .slice H.Base.Mem.Lists.Global.a H.Base.Mem.Lists.Global.len H.Base.Mem.Lists.Global.cap, .slice H.Base.Mem.Lists.Own.a H.Base.Mem.Lists.Own.len H.Base.Mem.Lists.Own.cap, .int .i64 x.Base.Clock.Epoch, .slice H.Base.Clock.Pins.a H.Base.Clock.Pins.len H.Base.Clock.Pins.cap, .slice H.Base.Limbo.a H.Base.Limbo.len H.Base.Limbo.cap, .slice H.Base.Haz.a H.Base.Haz.len H.Base.Haz.cap, .slice H.Cells.a H.Cells.len H.Cells.cap, .slice H.Jobs.a H.Jobs.len H.Jobs.cap, .slice H.Todo.a H.Todo.len H.Todo.cap, .slice H.Log.a H.Log.len H.Log.cap, .int .i64 x.Serial] 69)).alloc (.cells #[.slice K.Base.Mem.Heap.Bytes.a K.Base.Mem.Heap.Bytes.len K.Base.Mem.Heap.Bytes.cap, .slice K.Base.Mem.Heap.Class.a K.Base.Mem.Heap.Class.len K.Base.Mem.Heap.Class.cap, .slice K.Base.Mem.Lists.Global.a K.Base.Mem.Lists.Global.len K.Base.Mem.Lists.Global.cap, .slice K.Base.Mem.Lists.Own.a K.Base.Mem.Lists.Own.len K.Base.Mem.Lists.Own.cap, .int .i64 y.Base.Clock.Epoch, .slice K.Base.Clock.Pins.a K.Base.Clock.Pins.len K.Base.Clock.Pins.cap, .slice K.Base.Limbo.a K.Base.Limbo.len K.Base.Limbo.cap, .slice K.Base.Haz.a K.Base.Haz.len K.Base.Haz.cap, .slice K.Cells.a K.Cells.len K.Cells.cap, .slice K.Jobs.a K.Jobs.len K.Jobs.cap, .slice K.Todo.a K.Todo.len K.Todo.cap, .slice K.Log.a K.Log.len K.Log.cap, .int .i64 y.Serial] 69)) = w0 at B_a B_b hB ⊢
  clear hW0
  have zz_a := B_a.lt
  have zz_b := B_b.lt
  have q_a_0 := B_a.cell 0 _ rfl
  have q_a_1 := B_a.cell 1 _ rfl
  have q_a_2 := B_a.cell 2 _ rfl
  have q_a_3 := B_a.cell 3 _ rfl
  have q_a_4 := B_a.cell 4 _ rfl
  have q_a_5 := B_a.cell 5 _ rfl
  have q_a_6 := B_a.cell 6 _ rfl
  have q_a_7 := B_a.cell 7 _ rfl
  have q_a_8 := B_a.cell 8 _ rfl
  have q_a_9 := B_a.cell 9 _ rfl
  have q_a_10 := B_a.cell 10 _ rfl
  have q_a_11 := B_a.cell 11 _ rfl
  have q_a_12 := B_a.cell 12 _ rfl
  have fr_a := B_a.fro
  have z_a := B_a.lt
  have q_b_0 := B_b.cell 0 _ rfl
  have q_b_1 := B_b.cell 1 _ rfl
  have q_b_2 := B_b.cell 2 _ rfl
  have q_b_3 := B_b.cell 3 _ rfl
  have q_b_4 := B_b.cell 4 _ rfl
  have q_b_5 := B_b.cell 5 _ rfl
  have q_b_6 := B_b.cell 6 _ rfl
  have q_b_7 := B_b.cell 7 _ rfl
  have q_b_8 := B_b.cell 8 _ rfl
  have q_b_9 := B_b.cell 9 _ rfl
  have q_b_10 := B_b.cell 10 _ rfl
  have q_b_11 := B_b.cell 11 _ rfl
  have q_b_12 := B_b.cell 12 _ rfl
  have fr_b := B_b.fro
  have z_b := B_b.lt
  refine (k0 _ hB).mono ?_
  rintro e w1 ⟨rfl, hb⟩
  replace B_a := B_a.below hb
  replace B_b := B_b.below hb
  replace hB := hB.trans (hb.mono hB.size)
  have sz := hb.size
  clear hb
  replace q_a_0 := B_a.cell 0 _ rfl
  replace q_a_1 := B_a.cell 1 _ rfl
  replace q_a_2 := B_a.cell 2 _ rfl
  replace q_a_3 := B_a.cell 3 _ rfl
  replace q_a_4 := B_a.cell 4 _ rfl
  replace q_a_5 := B_a.cell 5 _ rfl
  replace q_a_6 := B_a.cell 6 _ rfl
  replace q_a_7 := B_a.cell 7 _ rfl
  replace q_a_8 := B_a.cell 8 _ rfl
  replace q_a_9 := B_a.cell 9 _ rfl
  replace q_a_10 := B_a.cell 10 _ rfl
  replace q_a_11 := B_a.cell 11 _ rfl
  replace q_a_12 := B_a.cell 12 _ rfl
  replace fr_a := B_a.fro
  replace z_a := B_a.lt
  replace q_b_0 := B_b.cell 0 _ rfl
  replace q_b_1 := B_b.cell 1 _ rfl
  replace q_b_2 := B_b.cell 2 _ rfl
  replace q_b_3 := B_b.cell 3 _ rfl
  replace q_b_4 := B_b.cell 4 _ rfl
  replace q_b_5 := B_b.cell 5 _ rfl
  replace q_b_6 := B_b.cell 6 _ rfl
  replace q_b_7 := B_b.cell 7 _ rfl
  replace q_b_8 := B_b.cell 8 _ rfl
  replace q_b_9 := B_b.cell 9 _ rfl
  replace q_b_10 := B_b.cell 10 _ rfl
  replace q_b_11 := B_b.cell 11 _ rfl
  replace q_b_12 := B_b.cell 12 _ rfl
  replace fr_b := B_b.fro
  replace z_b := B_b.lt
  clear k0
  go_wp2_with fail
  refine (k1 _ hB).mono ?_
  rintro e w2 ⟨rfl, hb⟩
  replace B_a := B_a.below hb
  replace B_b := B_b.below hb
  replace hB := hB.trans (hb.mono hB.size)
  have sz := hb.size
  clear hb
  replace q_a_0 := B_a.cell 0 _ rfl
  replace q_a_1 := B_a.cell 1 _ rfl
  replace q_a_2 := B_a.cell 2 _ rfl
  replace q_a_3 := B_a.cell 3 _ rfl
  replace q_a_4 := B_a.cell 4 _ rfl
  replace q_a_5 := B_a.cell 5 _ rfl
  replace q_a_6 := B_a.cell 6 _ rfl
  replace q_a_7 := B_a.cell 7 _ rfl
  replace q_a_8 := B_a.cell 8 _ rfl
  replace q_a_9 := B_a.cell 9 _ rfl
  replace q_a_10 := B_a.cell 10 _ rfl
  replace q_a_11 := B_a.cell 11 _ rfl
  replace q_a_12 := B_a.cell 12 _ rfl
  replace fr_a := B_a.fro
  replace z_a := B_a.lt
  replace q_b_0 := B_b.cell 0 _ rfl
  replace q_b_1 := B_b.cell 1 _ rfl
  replace q_b_2 := B_b.cell 2 _ rfl
  replace q_b_3 := B_b.cell 3 _ rfl
  replace q_b_4 := B_b.cell 4 _ rfl
  replace q_b_5 := B_b.cell 5 _ rfl
  replace q_b_6 := B_b.cell 6 _ rfl
  replace q_b_7 := B_b.cell 7 _ rfl
  replace q_b_8 := B_b.cell 8 _ rfl
  replace q_b_9 := B_b.cell 9 _ rfl
  replace q_b_10 := B_b.cell 10 _ rfl
  replace q_b_11 := B_b.cell 11 _ rfl
  replace q_b_12 := B_b.cell 12 _ rfl
  replace fr_b := B_b.fro
  replace z_b := B_b.lt
  clear k1
  have r1J := rd_up h1.Jobs hB
  obtain ⟨A1J, n1J, c1J, hv⟩ : ∃ A n c, H.Jobs = ⟨A, n, c⟩ := ⟨_, _, _, rfl⟩
  rw [hv] at r1J q_a_9
  clear hv
  simp only [SV.val] at r1J q_a_9
  obtain ⟨e, b1J⟩ := RdL.len_ r1J
  subst e
  have r1T := rdLL_up h1.Todo hB
  obtain ⟨A1T, n1T, c1T, hv⟩ : ∃ A n c, H.Todo = ⟨A, n, c⟩ := ⟨_, _, _, rfl⟩
  rw [hv] at r1T q_a_10
  clear hv
  simp only [SV.val] at r1T q_a_10
  obtain ⟨e, ht1, ht2⟩ := r1T.len'
  have b1T : x.Todo.length ≤ 9223372036854775807 := by unfold maxLen at ht2; omega
  rw [e] at r1T q_a_10
  clear e ht1 ht2
  have r1L := rd_up h1.Log hB
  obtain ⟨A1L, n1L, c1L, hv⟩ : ∃ A n c, H.Log = ⟨A, n, c⟩ := ⟨_, _, _, rfl⟩
  rw [hv] at r1L q_a_11
  clear hv
  simp only [SV.val] at r1L q_a_11
  obtain ⟨e, b1L⟩ := RdL.len_ r1L
  subst e
  have r2J := rd_up h2.Jobs hB
  obtain ⟨A2J, n2J, c2J, hv⟩ : ∃ A n c, K.Jobs = ⟨A, n, c⟩ := ⟨_, _, _, rfl⟩
  rw [hv] at r2J q_b_9
  clear hv
  simp only [SV.val] at r2J q_b_9
  obtain ⟨e, b2J⟩ := RdL.len_ r2J
  subst e
  have r2T := rdLL_up h2.Todo hB
  obtain ⟨A2T, n2T, c2T, hv⟩ : ∃ A n c, K.Todo = ⟨A, n, c⟩ := ⟨_, _, _, rfl⟩
  rw [hv] at r2T q_b_10
  clear hv
  simp only [SV.val] at r2T q_b_10
  obtain ⟨e, ht1, ht2⟩ := r2T.len'
  have b2T : y.Todo.length ≤ 9223372036854775807 := by unfold maxLen at ht2; omega
  rw [e] at r2T q_b_10
  clear e ht1 ht2
  have r2L := rd_up h2.Log hB
  obtain ⟨A2L, n2L, c2L, hv⟩ : ∃ A n c, K.Log = ⟨A, n, c⟩ := ⟨_, _, _, rfl⟩
  rw [hv] at r2L q_b_11
  clear hv
  simp only [SV.val] at r2L q_b_11
  obtain ⟨e, b2L⟩ := RdL.len_ r2L
  subst e
  clear h1 h2
  generalize x.Jobs = xJ at *
  generalize x.Todo = xT at *
  generalize x.Log = xL at *
  generalize x.Serial = xS at *
  generalize y.Jobs = yJ at *
  generalize y.Todo = yT at *
  generalize y.Log = yL at *
  generalize y.Serial = yS at *
  by_cases hJ : xJ.length = yJ.length
  case neg =>
    replace HV : Hid (sameShelfB x y = false) := HV.out.trans (by rw [show decide (xJ = yJ) = false from decide_eq_false (fun e => hJ (by rw [e]))]; simp)
    have hJ' : ((xJ.length : Int) != (yJ.length : Int)) = true := by simp; omega
    go_wp2_with fail
    go_ret
    exact ⟨ret_bool HV.out.symm, hB⟩
  have hJ' : ((xJ.length : Int) != (yJ.length : Int)) = false := by simp; omega
  by_cases hT : xT.length = yT.length
  case neg =>
    replace HV : Hid (sameShelfB x y = false) := HV.out.trans (by rw [show decide (xT = yT) = false from decide_eq_false (fun e => hT (by rw [e]))]; simp)
    have hT' : ((xT.length : Int) != (yT.length : Int)) = true := by simp; omega
    go_wp2_with fail
    go_ret
    exact ⟨ret_bool HV.out.symm, hB⟩
  have hT' : ((xT.length : Int) != (yT.length : Int)) = false := by simp; omega
  by_cases hL : xL.length = yL.length
  case neg =>
    replace HV : Hid (sameShelfB x y = false) := HV.out.trans (by rw [show decide (xL = yL) = false from decide_eq_false (fun e => hL (by rw [e]))]; simp)
    have hL' : ((xL.length : Int) != (yL.length : Int)) = true := by simp; omega
    go_wp2_with fail
    go_ret
    exact ⟨ret_bool HV.out.symm, hB⟩
  have hL' : ((xL.length : Int) != (yL.length : Int)) = false := by simp; omega
  by_cases hS : xS = yS
  case neg =>
    replace HV : Hid (sameShelfB x y = false) := HV.out.trans (by rw [show decide (xS = yS) = false from decide_eq_false hS]; simp)
    have hS' : (xS != yS) = true := by simpa using hS
    go_wp2_with fail
    go_ret
    exact ⟨ret_bool HV.out.symm, hB⟩
  subst hS
  have HNJ := Hid.mk_ hJ
  rw [← hJ] at r2J q_b_9
  clear hJ hJ'
  have HNT := Hid.mk_ hT
  rw [← hT] at r2T q_b_10
  clear hT hT'
  have HNL := Hid.mk_ hL
  rw [← hL] at r2L q_b_11
  clear hL hL'
  have sxx : (xS != xS) = false := by simp
  go_wp2_with fail
  go_loopw [5] (fun i wr => ∃ k : Nat, k ≤ xJ.length ∧ i = .int .i64 k ∧ Hid (xJ.take k = yJ.take k) ∧ Below w2.heap.size w2 wr) (fun i _ => xJ.length - (intOf i).toNat)
  case atStart => exact ⟨0, Nat.zero_le _, rfl, rfl, Below.refl _ _⟩
  case round =>
    obtain ⟨i1, hi, rfl, HT, hb1⟩ := hrel
    have p_a_9 := (hb1.cell (p := ⟨w.heap.size, 9, none⟩) z_a).trans q_a_9
    have p_a_10 := (hb1.cell (p := ⟨w.heap.size, 10, none⟩) z_a).trans q_a_10
    have p_a_11 := (hb1.cell (p := ⟨w.heap.size, 11, none⟩) z_a).trans q_a_11
    have p_b_9 := (hb1.cell (p := ⟨w.heap.size + 1, 9, none⟩) z_b).trans q_b_9
    have p_b_10 := (hb1.cell (p := ⟨w.heap.size + 1, 10, none⟩) z_b).trans q_b_10
    have p_b_11 := (hb1.cell (p := ⟨w.heap.size + 1, 11, none⟩) z_b).trans q_b_11
    by_cases hlt : i1 < xJ.length
    · have hlt2 : i1 < yJ.length := by rw [← HNJ.out]; exact hlt
      obtain ⟨g1, o1, cap1, he1, hg1, _, _, hc1⟩ := (r1J.below hb1).range_ (List.getElem?_eq_getElem hlt)
      obtain ⟨g2, o2, cap2, he2, hg2, _, _, hc2⟩ := (r2J.below hb1).range_ (List.getElem?_eq_getElem hlt2)
      injection he1 with e11 e12 e13
      injection he2 with e21 e22 e23
      clear e12 e22
      subst e11 e13 e21 e23
      rw [show FJob.n = 21 from rfl] at hc1 hc2
      replace hc1 := row?_of hc1 (FJob.len _)
      replace hc2 := row?_of hc2 (FJob.len _)
      rw [show FJob.n = 21 from rfl] at hc1 hc2
      have HX := Hid.mk_ (show ∀ (hh : xJ[i1] = yJ[i1]), xJ.take (i1 + 1) = yJ.take (i1 + 1) from fun hh => eq_take_step hlt hlt2 HT.out hh)
      have HY := Hid.mk_ (show ∀ (hh : xJ[i1] ≠ yJ[i1]), xJ ≠ yJ from fun hh => ne_at hlt hlt2 hh)
      have hq : ∀ w : World, (binOp .neq 97 (.agg (FJob.enc xJ[i1]).toArray) (.agg (FJob.enc yJ[i1]).toArray)).run Try.prog w = .ok (.bool (! decide (xJ[i1] = yJ[i1]))) w := neqRunJob _ _
      generalize FJob.enc xJ[i1] = ca at hq hc1
      generalize FJob.enc yJ[i1] = cb at hq hc2
      clear r1J r1T r1L r2J r2T r2L
      generalize hga : xJ[i1] = a at *
      generalize hgb : yJ[i1] = b at *
      clear hga hgb
      by_cases hh : a = b
      · have HE := Hid.mk_ (HX.out hh)
        rw [decide_eq_true hh] at hq
        clear hh
        go_wp2
        go_quiet (fail)
        all_goals go_wp2
        all_goals go_roundw
        case rel => exact ⟨i1 + 1, by omega, by go_num, HE, by first | exact hb1 | exact below_drewN hb1 _ | exact hb1.drew⟩
        case measure => simp [intOf]; omega
      · have HN := Hid.mk_ (show sameShelfB x y = false from HV.out.trans (by rw [show decide (xJ = yJ) = false from decide_eq_false (HY.out hh)]; simp))
        rw [decide_eq_false hh] at hq
        clear hh
        go_wp2
        go_quiet (fail)
        all_goals go_wp2
        all_goals go_ret
        all_goals exact ⟨ret_bool HN.out.symm, hB.trans (Below.mono (by first | exact hb1 | exact below_drewN hb1 _ | exact hb1.drew) hB.size)⟩
    · have EJ : Hid (xJ = yJ) := Hid.mk_ (eq_take_end HNJ.out (by have a := HT.out; rwa [show i1 = xJ.length by omega] at a))
      go_wp2
      clear p_a_9 p_a_10 p_a_11 p_b_9 p_b_10 p_b_11 HT
      go_loopw [6] (fun i wr => ∃ k : Nat, k ≤ xT.length ∧ i = .int .i64 k ∧ Hid (xT.take k = yT.take k) ∧ Below w2.heap.size w2 wr) (fun i _ => xT.length - (intOf i).toNat)
      case atStart => exact ⟨0, Nat.zero_le _, rfl, rfl, hb1⟩
      case round =>
        obtain ⟨i2, hi2, rfl, HT, hb2⟩ := hrel
        have hb0 := hB.trans (hb2.mono hB.size)
        have p_a_9 := (hb2.cell (p := ⟨w.heap.size, 9, none⟩) z_a).trans q_a_9
        have p_a_10 := (hb2.cell (p := ⟨w.heap.size, 10, none⟩) z_a).trans q_a_10
        have p_a_11 := (hb2.cell (p := ⟨w.heap.size, 11, none⟩) z_a).trans q_a_11
        have p_b_9 := (hb2.cell (p := ⟨w.heap.size + 1, 9, none⟩) z_b).trans q_b_9
        have p_b_10 := (hb2.cell (p := ⟨w.heap.size + 1, 10, none⟩) z_b).trans q_b_10
        have p_b_11 := (hb2.cell (p := ⟨w.heap.size + 1, 11, none⟩) z_b).trans q_b_11
        by_cases hlt : i2 < xT.length
        · have hlt2 : i2 < yT.length := by rw [← HNT.out]; exact hlt
          obtain ⟨g1, o1, B1, d1, e1, hg1, p1, s1⟩ := r1T.row hb2 hlt
          obtain ⟨g2, o2, B2, d2, e2, hg2, p2, s2⟩ := r2T.row hb2 hlt2
          subst e1 e2
          obtain ⟨_, bl1⟩ := RdL.len_ s1
          obtain ⟨_, bl2⟩ := RdL.len_ s2
          have HX := Hid.mk_ (show ∀ (hh : xT[i2] = yT[i2]), xT.take (i2 + 1) = yT.take (i2 + 1) from fun hh => eq_take_step hlt hlt2 HT.out hh)
          have HY := Hid.mk_ (show ∀ (hh : xT[i2] ≠ yT[i2]), xT ≠ yT from fun hh => ne_at hlt hlt2 hh)
          generalize hga : xT[i2] = la at *
          generalize hgb : yT[i2] = lb at *
          clear hga hgb r1J r2J r1L r2L r1T r2T
          have NF := Hid.mk_ (show la ≠ lb → sameShelfB x y = false from fun hh => HV.out.trans (by rw [show decide (xT = yT) = false from decide_eq_false (HY.out hh)]; simp))
          by_cases hl : la.length = lb.length
          case neg =>
            have HN := Hid.mk_ (NF.out (fun e => hl (by rw [e])))
            have hl' : ((la.length : Int) != (lb.length : Int)) = true := by simp; omega
            clear hl s1 s2
            go_wp2
            go_quiet (fail)
            all_goals go_wp2
            all_goals go_ret
            all_goals exact ⟨ret_bool HN.out.symm, by first | exact hb0 | exact below_drewN hb0 _ | exact hb0.drew⟩
          have HL := Hid.mk_ hl
          rw [← hl] at s2 p2
          clear hl bl2
          have hl' : ((la.length : Int) != (la.length : Int)) = false := by simp
          go_wp2
          go_quiet (fail)
          all_goals
            go_wp2
            clear hl'
            go_loopw [7] (fun i wr' => ∃ k : Nat, k ≤ la.length ∧ i = .int .i64 k ∧ Hid (la.take k = lb.take k) ∧ Below w2.heap.size w2 wr') (fun i _ => la.length - (intOf i).toNat)
            case atStart => exact ⟨0, Nat.zero_le _, rfl, rfl, by first | exact hb2 | exact below_drewN hb2 _ | exact hb2.drew⟩
            case round =>
              obtain ⟨i3, hi3, rfl, HT3, hb3⟩ := hrel
              have hb03 := hB.trans (hb3.mono hB.size)
              have p1' := (hb3.cell (p := ⟨g1, o1 + i2, none⟩) hg1).trans ((hb2.cell (p := ⟨g1, o1 + i2, none⟩) hg1).symm.trans p1)
              have p2' := (hb3.cell (p := ⟨g2, o2 + i2, none⟩) hg2).trans ((hb2.cell (p := ⟨g2, o2 + i2, none⟩) hg2).symm.trans p2)
              have p_a_9 := (hb3.cell (p := ⟨w.heap.size, 9, none⟩) z_a).trans q_a_9
              have p_a_10 := (hb3.cell (p := ⟨w.heap.size, 10, none⟩) z_a).trans q_a_10
              have p_a_11 := (hb3.cell (p := ⟨w.heap.size, 11, none⟩) z_a).trans q_a_11
              have p_b_9 := (hb3.cell (p := ⟨w.heap.size + 1, 9, none⟩) z_b).trans q_b_9
              have p_b_10 := (hb3.cell (p := ⟨w.heap.size + 1, 10, none⟩) z_b).trans q_b_10
              have p_b_11 := (hb3.cell (p := ⟨w.heap.size + 1, 11, none⟩) z_b).trans q_b_11
              by_cases hl3 : i3 < la.length
              · have hl4 : i3 < lb.length := by rw [← HL.out]; exact hl3
                obtain ⟨g3, o3, cap1, he1, hg1, _, _, hc1⟩ := (s1.below hb3).range_ (List.getElem?_eq_getElem hl3)
                obtain ⟨g4, o4, cap2, he2, hg2, _, _, hc2⟩ := (s2.below hb3).range_ (List.getElem?_eq_getElem hl4)
                injection he1 with e11 e12 e13
                injection he2 with e21 e22 e23
                clear e12 e22
                subst e11 e13 e21 e23
                rw [show FOp.n = 4 from rfl] at hc1 hc2
                replace hc1 := row?_of hc1 (FOp.len _)
                replace hc2 := row?_of hc2 (FOp.len _)
                rw [show FOp.n = 4 from rfl] at hc1 hc2
                have HX3 := Hid.mk_ (show ∀ (hh : la[i3] = lb[i3]), la.take (i3 + 1) = lb.take (i3 + 1) from fun hh => eq_take_step hl3 hl4 HT3.out hh)
                have HY3 := Hid.mk_ (show ∀ (hh : la[i3] ≠ lb[i3]), la ≠ lb from fun hh => ne_at hl3 hl4 hh)
                have hq : ∀ w : World, (binOp .neq 93 (.agg (FOp.enc la[i3]).toArray) (.agg (FOp.enc lb[i3]).toArray)).run Try.prog w = .ok (.bool (! decide (la[i3] = lb[i3]))) w := neqRunOp _ _
                generalize FOp.enc la[i3] = ca at hq hc1
                generalize FOp.enc lb[i3] = cb at hq hc2
                generalize hga : la[i3] = a at *
                generalize hgb : lb[i3] = b at *
                clear hga hgb s1 s2
                by_cases hh : a = b
                · have HE := Hid.mk_ (HX3.out hh)
                  rw [decide_eq_true hh] at hq
                  clear hh
                  go_wp2
                  go_quiet (fail)
                  all_goals go_wp2
                  all_goals go_roundw
                  case rel => exact ⟨i3 + 1, by omega, by go_num, HE, by first | exact hb3 | exact below_drewN hb3 _ | exact hb3.drew⟩
                  case measure => simp [intOf]; omega
                · have HN := Hid.mk_ (NF.out (HY3.out hh))
                  rw [decide_eq_false hh] at hq
                  clear hh
                  go_wp2
                  go_quiet (fail)
                  all_goals go_wp2
                  all_goals go_ret
                  all_goals exact ⟨ret_bool HN.out.symm, by first | exact hb03 | exact below_drewN hb03 _ | exact hb03.drew⟩
              · have HE := Hid.mk_ (HX.out (eq_take_end HL.out (by have a := HT3.out; rwa [show i3 = la.length by omega] at a)))
                go_wp2
                go_roundw
                case rel => exact ⟨i2 + 1, by omega, by go_num, HE, hb3⟩
                case measure => simp [intOf]; omega
        · have ET : Hid (xT = yT) := Hid.mk_ (eq_take_end HNT.out (by have a := HT.out; rwa [show i2 = xT.length by omega] at a))
          go_wp2
          clear HT p_a_9 p_a_10 p_a_11 p_b_9 p_b_10 p_b_11
          go_loopw [8] (fun i wr => ∃ k : Nat, k ≤ xL.length ∧ i = .int .i64 k ∧ Hid (xL.take k = yL.take k) ∧ Below w2.heap.size w2 wr) (fun i _ => xL.length - (intOf i).toNat)
          case atStart => exact ⟨0, Nat.zero_le _, rfl, rfl, hb2⟩
          case round =>
            obtain ⟨i3, hi, rfl, HT, hb3⟩ := hrel
            have p_a_9 := (hb3.cell (p := ⟨w.heap.size, 9, none⟩) z_a).trans q_a_9
            have p_a_10 := (hb3.cell (p := ⟨w.heap.size, 10, none⟩) z_a).trans q_a_10
            have p_a_11 := (hb3.cell (p := ⟨w.heap.size, 11, none⟩) z_a).trans q_a_11
            have p_b_9 := (hb3.cell (p := ⟨w.heap.size + 1, 9, none⟩) z_b).trans q_b_9
            have p_b_10 := (hb3.cell (p := ⟨w.heap.size + 1, 10, none⟩) z_b).trans q_b_10
            have p_b_11 := (hb3.cell (p := ⟨w.heap.size + 1, 11, none⟩) z_b).trans q_b_11
            by_cases hlt : i3 < xL.length
            · have hlt2 : i3 < yL.length := by rw [← HNL.out]; exact hlt
              obtain ⟨g1, o1, cap1, he1, hg1, _, _, hc1⟩ := (r1L.below hb3).range_ (List.getElem?_eq_getElem hlt)
              obtain ⟨g2, o2, cap2, he2, hg2, _, _, hc2⟩ := (r2L.below hb3).range_ (List.getElem?_eq_getElem hlt2)
              injection he1 with e11 e12 e13
              injection he2 with e21 e22 e23
              clear e12 e22
              subst e11 e13 e21 e23
              rw [show FEv.n = 7 from rfl] at hc1 hc2
              replace hc1 := row?_of hc1 (FEv.len _)
              replace hc2 := row?_of hc2 (FEv.len _)
              rw [show FEv.n = 7 from rfl] at hc1 hc2
              have HX := Hid.mk_ (show ∀ (hh : xL[i3] = yL[i3]), xL.take (i3 + 1) = yL.take (i3 + 1) from fun hh => eq_take_step hlt hlt2 HT.out hh)
              have HY := Hid.mk_ (show ∀ (hh : xL[i3] ≠ yL[i3]), xL ≠ yL from fun hh => ne_at hlt hlt2 hh)
              have hq : ∀ w : World, (binOp .neq 25 (.agg (FEv.enc xL[i3]).toArray) (.agg (FEv.enc yL[i3]).toArray)).run Try.prog w = .ok (.bool (! decide (xL[i3] = yL[i3]))) w := neqRunEv _ _
              generalize FEv.enc xL[i3] = ca at hq hc1
              generalize FEv.enc yL[i3] = cb at hq hc2
              clear r1J r1T r1L r2J r2T r2L
              generalize hga : xL[i3] = a at *
              generalize hgb : yL[i3] = b at *
              clear hga hgb
              by_cases hh : a = b
              · have HE := Hid.mk_ (HX.out hh)
                rw [decide_eq_true hh] at hq
                clear hh
                go_wp2
                go_quiet (fail)
                all_goals go_wp2
                all_goals go_roundw
                case rel => exact ⟨i3 + 1, by omega, by go_num, HE, by first | exact hb3 | exact below_drewN hb3 _ | exact hb3.drew⟩
                case measure => simp [intOf]; omega
              · have HN := Hid.mk_ (show sameShelfB x y = false from HV.out.trans (by rw [show decide (xL = yL) = false from decide_eq_false (HY.out hh)]; simp))
                rw [decide_eq_false hh] at hq
                clear hh
                go_wp2
                go_quiet (fail)
                all_goals go_wp2
                all_goals go_ret
                all_goals exact ⟨ret_bool HN.out.symm, hB.trans (Below.mono (by first | exact hb3 | exact below_drewN hb3 _ | exact hb3.drew) hB.size)⟩
            · have EL : Hid (xL = yL) := Hid.mk_ (eq_take_end HNL.out (by have a := HT.out; rwa [show i3 = xL.length by omega] at a))
              go_wp2
              clear p_a_9 p_a_10 p_a_11 p_b_9 p_b_10 p_b_11 HT
              go_ret
              exact ⟨ret_bool (by rw [HV.out, decide_eq_true EJ.out, decide_eq_true ET.out, decide_eq_true EL.out]; simp), hB.trans (hb3.mono hB.size)⟩
end Go.Proofs.Ytdepckmjgpkjmaa
