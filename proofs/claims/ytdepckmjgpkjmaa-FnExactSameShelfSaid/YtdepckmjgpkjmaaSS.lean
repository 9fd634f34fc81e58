/-
  SameShelf of the program: the contract.
-/
import Derived.Test.YtdepckmjgpkjmaaT
import Derived.Test.YtdepckmjgpkjmaaL
import Derived.Deep.QuietTactic
import Derived.BigQuiet
import Derived.Deep.LoopGhost
import Derived.Deep.RegionHeld3
import Derived.Test.YtdepckmjgpkjmaaN
import Derived.Test.YtdepckmjgpkjmaaA
import Derived.WalkSpells
import Derived.Laws.Cover3
import Derived.Test.YtdepckmjgpkjmaaSB
import Derived.Test.YtdepckmjgpkjmaaQJ
import Derived.Test.YtdepckmjgpkjmaaWS
namespace Go.Proofs.Ytdepckmjgpkjmaa
open Go.RowKit

def sameShelfB (x y : Shelf) : Bool := sameBaseB x.Base y.Base && decide (x.Cells = y.Cells) && decide (x.Jobs = y.Jobs) && decide (x.Log = y.Log) && decide (x.Serial = y.Serial) && decide (x.Todo = y.Todo)

set_option maxRecDepth 100000 in
set_option maxHeartbeats 2000000 in
theorem SameShelf_impl (w : World) (H K : HShelf) (x y : Shelf) (h1 : RdShelf w w.heap.size H x) (h2 : RdShelf w w.heap.size K y) :
    Calls Try.prog 23 #[.agg #[.slice H.Base.Mem.Heap.Bytes.a H.Base.Mem.Heap.Bytes.len H.Base.Mem.Heap.Bytes.cap, .slice H.Base.Mem.Heap.Class.a H.Base.Mem.Heap.Class.len H.Base.Mem.Heap.Class.cap, .slice H.Base.Mem.Lists.Global.a H.Base.Mem.Lists.Global.len H.Base.Mem.Lists.Global.cap, .slice H.Base.Mem.Lists.Own.a H.Base.Mem.Lists.Own.len H.Base.Mem.Lists.Own.cap, .int .i64 x.Base.Clock.Epoch, .slice H.Base.Clock.Pins.a H.Base.Clock.Pins.len H.Base.Clock.Pins.cap, .slice H.Base.Limbo.a H.Base.Limbo.len H.Base.Limbo.cap, .slice H.Base.Haz.a H.Base.Haz.len H.Base.Haz.cap, .slice H.Cells.a H.Cells.len H.Cells.cap, .slice H.Jobs.a H.Jobs.len H.Jobs.cap, .slice H.Todo.a H.Todo.len H.Todo.cap, .slice H.Log.a H.Log.len H.Log.cap, .int .i64 x.Serial], .agg #[.slice K.Base.Mem.Heap.Bytes.a K.Base.Mem.Heap.Bytes.len K.Base.Mem.Heap.Bytes.cap, .slice K.Base.Mem.Heap.Class.a K.Base.Mem.Heap.Class.len K.Base.Mem.Heap.Class.cap, .slice K.Base.Mem.Lists.Global.a K.Base.Mem.Lists.Global.len K.Base.Mem.Lists.Global.cap, .slice K.Base.Mem.Lists.Own.a K.Base.Mem.Lists.Own.len K.Base.Mem.Lists.Own.cap, .int .i64 y.Base.Clock.Epoch, .slice K.Base.Clock.Pins.a K.Base.Clock.Pins.len K.Base.Clock.Pins.cap, .slice K.Base.Limbo.a K.Base.Limbo.len K.Base.Limbo.cap, .slice K.Base.Haz.a K.Base.Haz.len K.Base.Haz.cap, .slice K.Cells.a K.Cells.len K.Cells.cap, .slice K.Jobs.a K.Jobs.len K.Jobs.cap, .slice K.Todo.a K.Todo.len K.Todo.cap, .slice K.Log.a K.Log.len K.Log.cap, .int .i64 y.Serial]] w fun e w' => e = .returned (.bool (sameShelfB x y)) ∧ Below w.heap.size w w' := by
  have k0 := fun (W : World) (hW : Below w.heap.size w W) => SameBase_impl W H.Base K.Base x.Base y.Base (rdBase_up h1.Base hW) (rdBase_up h2.Base hW)
  have k1 := fun (W : World) (hW : Below w.heap.size w W) => EqualInt_ct W _ _ x.Cells y.Cells (rd_up h1.Cells hW) (rd_up h2.Cells hW)
  have k2 := fun (W : World) (hW : Below w.heap.size w W) => EqualJob_ct W _ _ x.Jobs y.Jobs (rd_up h1.Jobs hW) (rd_up h2.Jobs hW)
  have k3 := fun (W : World) (hW : Below w.heap.size w W) => EqualEv_ct W _ _ x.Log y.Log (rd_up h1.Log hW) (rd_up h2.Log hW)
  have k5 := fun (W : World) (hW : Below w.heap.size w W) => EqualFuncQueue_ct W _ _ _ _ x.Todo y.Todo (rdLL_up h1.Todo hW) (rdLL_up h2.Todo hW)
  have HV : Hid (sameShelfB x y = (sameBaseB x.Base y.Base && decide (x.Cells = y.Cells) && decide (x.Jobs = y.Jobs) && decide (x.Log = y.Log) && decide (x.Serial = y.Serial) && decide (x.Todo = y.Todo))) := (rfl : _ = _)
  have k4 : (x.Serial == y.Serial) = decide (x.Serial = y.Serial) := rfl
  generalize sameBaseB x.Base y.Base = c0 at k0 HV
  generalize decide (x.Cells = y.Cells) = c1 at k1 HV
  generalize decide (x.Jobs = y.Jobs) = c2 at k2 HV
  generalize decide (x.Log = y.Log) = c3 at k3 HV
  generalize decide (x.Serial = y.Serial) = c4 at k4 HV
  generalize decide (x.Todo = y.Todo) = c5 at k5 HV
  cases c0 with
  | false =>
    replace HV : Hid (sameShelfB x y = false) := HV.out.trans (by simp)
    have B_a : Box ((w.alloc (.cells #[.slice H.Base.Mem.Heap.Bytes.a H.Base.Mem.Heap.Bytes.len H.Base.Mem.Heap.Bytes.cap, .slice H.Base.Mem.Heap.Class.a H.Base.Mem.Heap.Class.len H.Base.Mem.Heap.Class.cap, .slice H.Base.Mem.Lists.Global.a H.Base.Mem.Lists.Global.len H.Base.Mem.Lists.Global.cap, .slice H.Base.Mem.Lists.Own.a H.Base.Mem.Lists.Own.len H.Base.Mem.Lists.Own.cap, .int .i64 x.Base.Clock.Epoch, .slice H.Base.Clock.Pins.a H.Base.Clock.Pins.len H.Base.Clock.Pins.cap, .slice H.Base.Limbo.a H.Base.Limbo.len H.Base.Limbo.cap, .slice H.Base.Haz.a H.Base.Haz.len H.Base.Haz.cap, .slice H.Cells.a H.Cells.len H.Cells.cap, .slice H.Jobs.a H.Jobs.len H.Jobs.cap, .slice H.Todo.a H.Todo.len H.Todo.cap, .slice H.Log.a H.Log.len H.Log.cap, .int .i64 x.Serial] 69)).alloc (.cells #[.slice K.Base.Mem.Heap.Bytes.a K.Base.Mem.Heap.Bytes.len K.Base.Mem.Heap.Bytes.cap, .slice K.Base.Mem.Heap.Class.a K.Base.Mem.Heap.Class.len K.Base.Mem.Heap.Class.cap, .slice K.Base.Mem.Lists.Global.a K.Base.Mem.Lists.Global.len K.Base.Mem.Lists.Global.cap, .slice K.Base.Mem.Lists.Own.a K.Base.Mem.Lists.Own.len K.Base.Mem.Lists.Own.cap, .int .i64 y.Base.Clock.Epoch, .slice K.Base.Clock.Pins.a K.Base.Clock.Pins.len K.Base.Clock.Pins.cap, .slice K.Base.Limbo.a K.Base.Limbo.len K.Base.Limbo.cap, .slice K.Base.Haz.a K.Base.Haz.len K.Base.Haz.cap, .slice K.Cells.a K.Cells.len K.Cells.cap, .slice K.Jobs.a K.Jobs.len K.Jobs.cap, .slice K.Todo.a K.Todo.len K.Todo.cap, .slice K.Log.a K.Log.len K.Log.cap, .int .i64 y.Serial] 69)) (w.heap.size) [.slice H.Base.Mem.Heap.Bytes.a H.Base.Mem.Heap.Bytes.len H.Base.Mem.Heap.Bytes.cap, .slice H.Base.Mem.Heap.Class.a H.Base.Mem.Heap.Class.len H.Base.Mem.Heap.Class.cap, .slice H.Base.Mem.Lists.Global.a H.Base.Mem.Lists.Global.len H.Base.Mem.Lists.Global.cap, .slice H.Base.Mem.Lists.Own.a H.Base.Mem.Lists.Own.len H.Base.Mem.Lists.Own.cap, .int .i64 x.Base.Clock.Epoch, .slice H.Base.Clock.Pins.a H.Base.Clock.Pins.len H.Base.Clock.Pins.cap, .slice H.Base.Limbo.a H.Base.Limbo.len H.Base.Limbo.cap, .slice H.Base.Haz.a H.Base.Haz.len H.Base.Haz.cap, .slice H.Cells.a H.Cells.len H.Cells.cap, .slice H.Jobs.a H.Jobs.len H.Jobs.cap, .slice H.Todo.a H.Todo.len H.Todo.cap, .slice H.Log.a H.Log.len H.Log.cap, .int .i64 x.Serial] := by
      have hbx := Box.new w #[.slice H.Base.Mem.Heap.Bytes.a H.Base.Mem.Heap.Bytes.len H.Base.Mem.Heap.Bytes.cap, .slice H.Base.Mem.Heap.Class.a H.Base.Mem.Heap.Class.len H.Base.Mem.Heap.Class.cap, .slice H.Base.Mem.Lists.Global.a H.Base.Mem.Lists.Global.len H.Base.Mem.Lists.Global.cap, .slice H.Base.Mem.Lists.Own.a H.Base.Mem.Lists.Own.len H.Base.Mem.Lists.Own.cap, .int .i64 x.Base.Clock.Epoch, .slice H.Base.Clock.Pins.a H.Base.Clock.Pins.len H.Base.Clock.Pins.cap, .slice H.Base.Limbo.a H.Base.Limbo.len H.Base.Limbo.cap, .slice H.Base.Haz.a H.Base.Haz.len H.Base.Haz.cap, .slice H.Cells.a H.Cells.len H.Cells.cap, .slice H.Jobs.a H.Jobs.len H.Jobs.cap, .slice H.Todo.a H.Todo.len H.Todo.cap, .slice H.Log.a H.Log.len H.Log.cap, .int .i64 x.Serial] 69
      exact (hbx).alloc _
    have B_b : Box ((w.alloc (.cells #[.slice H.Base.Mem.Heap.Bytes.a H.Base.Mem.Heap.Bytes.len H.Base.Mem.Heap.Bytes.cap, .slice H.Base.Mem.Heap.Class.a H.Base.Mem.Heap.Class.len H.Base.Mem.Heap.Class.cap, .slice H.Base.Mem.Lists.Global.a H.Base.Mem.Lists.Global.len H.Base.Mem.Lists.Global.cap, .slice H.Base.Mem.Lists.Own.a H.Base.Mem.Lists.Own.len H.Base.Mem.Lists.Own.cap, .int .i64 x.Base.Clock.Epoch, .slice H.Base.Clock.Pins.a H.Base.Clock.Pins.len H.Base.Clock.Pins.cap, .slice H.Base.Limbo.a H.Base.Limbo.len H.Base.Limbo.cap, .slice H.Base.Haz.a H.Base.Haz.len H.Base.Haz.cap, .slice H.Cells.a H.Cells.len H.Cells.cap, .slice H.Jobs.a H.Jobs.len H.Jobs.cap, .slice H.Todo.a H.Todo.len H.Todo.cap, .slice H.Log.a H.Log.len H.Log.cap, .int .i64 x.Serial] 69)).alloc (.cells #[.slice K.Base.Mem.Heap.Bytes.a K.Base.Mem.Heap.Bytes.len K.Base.Mem.Heap.Bytes.cap, .slice K.Base.Mem.Heap.Class.a K.Base.Mem.Heap.Class.len K.Base.Mem.Heap.Class.cap, .slice K.Base.Mem.Lists.Global.a K.Base.Mem.Lists.Global.len K.Base.Mem.Lists.Global.cap, .slice K.Base.Mem.Lists.Own.a K.Base.Mem.Lists.Own.len K.Base.Mem.Lists.Own.cap, .int .i64 y.Base.Clock.Epoch, .slice K.Base.Clock.Pins.a K.Base.Clock.Pins.len K.Base.Clock.Pins.cap, .slice K.Base.Limbo.a K.Base.Limbo.len K.Base.Limbo.cap, .slice K.Base.Haz.a K.Base.Haz.len K.Base.Haz.cap, .slice K.Cells.a K.Cells.len K.Cells.cap, .slice K.Jobs.a K.Jobs.len K.Jobs.cap, .slice K.Todo.a K.Todo.len K.Todo.cap, .slice K.Log.a K.Log.len K.Log.cap, .int .i64 y.Serial] 69)) (w.heap.size + 1) [.slice K.Base.Mem.Heap.Bytes.a K.Base.Mem.Heap.Bytes.len K.Base.Mem.Heap.Bytes.cap, .slice K.Base.Mem.Heap.Class.a K.Base.Mem.Heap.Class.len K.Base.Mem.Heap.Class.cap, .slice K.Base.Mem.Lists.Global.a K.Base.Mem.Lists.Global.len K.Base.Mem.Lists.Global.cap, .slice K.Base.Mem.Lists.Own.a K.Base.Mem.Lists.Own.len K.Base.Mem.Lists.Own.cap, .int .i64 y.Base.Clock.Epoch, .slice K.Base.Clock.Pins.a K.Base.Clock.Pins.len K.Base.Clock.Pins.cap, .slice K.Base.Limbo.a K.Base.Limbo.len K.Base.Limbo.cap, .slice K.Base.Haz.a K.Base.Haz.len K.Base.Haz.cap, .slice K.Cells.a K.Cells.len K.Cells.cap, .slice K.Jobs.a K.Jobs.len K.Jobs.cap, .slice K.Todo.a K.Todo.len K.Todo.cap, .slice K.Log.a K.Log.len K.Log.cap, .int .i64 y.Serial] := by
      have hbx := Box.new (w.alloc (.cells #[.slice H.Base.Mem.Heap.Bytes.a H.Base.Mem.Heap.Bytes.len H.Base.Mem.Heap.Bytes.cap, .slice H.Base.Mem.Heap.Class.a H.Base.Mem.Heap.Class.len H.Base.Mem.Heap.Class.cap, .slice H.Base.Mem.Lists.Global.a H.Base.Mem.Lists.Global.len H.Base.Mem.Lists.Global.cap, .slice H.Base.Mem.Lists.Own.a H.Base.Mem.Lists.Own.len H.Base.Mem.Lists.Own.cap, .int .i64 x.Base.Clock.Epoch, .slice H.Base.Clock.Pins.a H.Base.Clock.Pins.len H.Base.Clock.Pins.cap, .slice H.Base.Limbo.a H.Base.Limbo.len H.Base.Limbo.cap, .slice H.Base.Haz.a H.Base.Haz.len H.Base.Haz.cap, .slice H.Cells.a H.Cells.len H.Cells.cap, .slice H.Jobs.a H.Jobs.len H.Jobs.cap, .slice H.Todo.a H.Todo.len H.Todo.cap, .slice H.Log.a H.Log.len H.Log.cap, .int .i64 x.Serial] 69)) #[.slice K.Base.Mem.Heap.Bytes.a K.Base.Mem.Heap.Bytes.len K.Base.Mem.Heap.Bytes.cap, .slice K.Base.Mem.Heap.Class.a K.Base.Mem.Heap.Class.len K.Base.Mem.Heap.Class.cap, .slice K.Base.Mem.Lists.Global.a K.Base.Mem.Lists.Global.len K.Base.Mem.Lists.Global.cap, .slice K.Base.Mem.Lists.Own.a K.Base.Mem.Lists.Own.len K.Base.Mem.Lists.Own.cap, .int .i64 y.Base.Clock.Epoch, .slice K.Base.Clock.Pins.a K.Base.Clock.Pins.len K.Base.Clock.Pins.cap, .slice K.Base.Limbo.a K.Base.Limbo.len K.Base.Limbo.cap, .slice K.Base.Haz.a K.Base.Haz.len K.Base.Haz.cap, .slice K.Cells.a K.Cells.len K.Cells.cap, .slice K.Jobs.a K.Jobs.len K.Jobs.cap, .slice K.Todo.a K.Todo.len K.Todo.cap, .slice K.Log.a K.Log.len K.Log.cap, .int .i64 y.Serial] 69
      simp only [World.size_alloc] at hbx
      exact hbx
    have hB : Below w.heap.size w ((w.alloc (.cells #[.slice H.Base.Mem.Heap.Bytes.a H.Base.Mem.Heap.Bytes.len H.Base.Mem.Heap.Bytes.cap, .slice H.Base.Mem.Heap.Class.a H.Base.Mem.Heap.Class.len H.Base.Mem.Heap.Class.cap, .slice H.Base.Mem.Lists.Global.a H.Base.Mem.Lists.Global.len H.Base.Mem.Lists.Global.cap, .slice H.Base.Mem.Lists.Own.a H.Base.Mem.Lists.Own.len H.Base.Mem.Lists.Own.cap, .int .i64 x.Base.Clock.Epoch, .slice H.Base.Clock.Pins.a H.Base.Clock.Pins.len H.Base.Clock.Pins.cap, .slice H.Base.Limbo.a H.Base.Limbo.len H.Base.Limbo.cap, .slice H.Base.Haz.a H.Base.Haz.len H.Base.Haz.cap, .slice H.Cells.a H.Cells.len H.Cells.cap, .slice H.Jobs.a H.Jobs.len H.Jobs.cap, .slice H.Todo.a H.Todo.len H.Todo.cap, .slice H.Log.a H.Log.len H.Log.cap, .int .i64 x.Serial] 69)).alloc (.cells #[.slice K.Base.Mem.Heap.Bytes.a K.Base.Mem.Heap.Bytes.len K.Base.Mem.Heap.Bytes.cap, .slice K.Base.Mem.Heap.Class.a K.Base.Mem.Heap.Class.len K.Base.Mem.Heap.Class.cap, .slice K.Base.Mem.Lists.Global.a K.Base.Mem.Lists.Global.len K.Base.Mem.Lists.Global.cap, .slice K.Base.Mem.Lists.Own.a K.Base.Mem.Lists.Own.len K.Base.Mem.Lists.Own.cap, .int .i64 y.Base.Clock.Epoch, .slice K.Base.Clock.Pins.a K.Base.Clock.Pins.len K.Base.Clock.Pins.cap, .slice K.Base.Limbo.a K.Base.Limbo.len K.Base.Limbo.cap, .slice K.Base.Haz.a K.Base.Haz.len K.Base.Haz.cap, .slice K.Cells.a K.Cells.len K.Cells.cap, .slice K.Jobs.a K.Jobs.len K.Jobs.cap, .slice K.Todo.a K.Todo.len K.Todo.cap, .slice K.Log.a K.Log.len K.Log.cap, .int .i64 y.Serial] 69)) := by repeat (first | exact Below.refl _ _ | refine Below.alloc ?_ (by simp <;> omega) _ | refine below_grow_of ?_ (by simp <;> omega) _ _ | refine Below.drew ?_ | refine below_drewN ?_ _)
    go_enter Try.func23, Try.ntmps23
    go_wp2_with fail
    generalize hW0 : ((w.alloc (.cells #[.slice H.Base.Mem.Heap.Bytes.a H.Base.Mem.Heap.Bytes.len H.Base.Mem.Heap.Bytes.cap, .slice H.Base.Mem.Heap.Class.a H.Base.Mem.Heap.Class.len H.Base.Mem.Heap.Class.cap, .slice H.Base.Mem.Lists.Global.a H.Base.Mem.Lists.Global.len H.Base.Mem.Lists.Global.cap, .slice H.Base.Mem.Lists.Own.a H.Base.Mem.Lists.Own.len H.Base.Mem.Lists.Own.cap, .int .i64 x.Base.Clock.Epoch, .slice H.Base.Clock.Pins.a H.Base.Clock.Pins.len H.Base.Clock.Pins.cap, .slice H.Base.Limbo.a H.Base.Limbo.len H.Base.Limbo.cap, .slice H.Base.Haz.a H.Base.Haz.len H.Base.Haz.cap, .slice H.Cells.a H.Cells.len H.Cells.cap, .slice H.Jobs.a H.Jobs.len H.Jobs.cap, .slice H.Todo.a H.Todo.len H.Todo.cap, .slice H.Log.a H.Log.len H.Log.cap, .int .i64 x.Serial] 69)).alloc (.cells #[.slice K.Base.Mem.Heap.Bytes.a K.Base.Mem.Heap.Bytes.len K.Base.Mem.Heap.Bytes.cap, .slice K.Base.Mem.Heap.Class.a K.Base.Mem.Heap.Class.len K.Base.Mem.Heap.Class.cap, .slice K.Base.Mem.Lists.Global.a K.Base.Mem.Lists.Global.len K.Base.Mem.Lists.Global.cap, .slice K.Base.Mem.Lists.Own.a K.Base.Mem.Lists.Own.len K.Base.Mem.Lists.Own.cap, .int .i64 y.Base.Clock.Epoch, .slice K.Base.Clock.Pins.a K.Base.Clock.Pins.len K.Base.Clock.Pins.cap, .slice K.Base.Limbo.a K.Base.Limbo.len K.Base.Limbo.cap, .slice K.Base.Haz.a K.Base.Haz.len K.Base.Haz.cap, .slice K.Cells.a K.Cells.len K.Cells.cap, .slice K.Jobs.a K.Jobs.len K.Jobs.cap, .slice K.Todo.a K.Todo.len K.Todo.cap, .slice K.Log.a K.Log.len K.Log.cap, .int .i64 y.Serial] 69)) = w0 at B_a B_b hB ⊢
    clear hW0
    have zz_a := B_a.lt
    have zz_b := B_b.lt
    have q_a_0 := B_a.cell 0 _ rfl
    have q_a_1 := B_a.cell 1 _ rfl
    have q_a_2 := B_a.cell 2 _ rfl
    have q_a_3 := B_a.cell 3 _ rfl
    have q_a_4 := B_a.cell 4 _ rfl
    have q_a_5 := B_a.cell 5 _ rfl
    have q_a_6 := B_a.cell 6 _ rfl
    have q_a_7 := B_a.cell 7 _ rfl
    have q_a_8 := B_a.cell 8 _ rfl
    have q_a_9 := B_a.cell 9 _ rfl
    have q_a_10 := B_a.cell 10 _ rfl
    have q_a_11 := B_a.cell 11 _ rfl
    have q_a_12 := B_a.cell 12 _ rfl
    have fr_a := B_a.fro
    have z_a := B_a.lt
    have q_b_0 := B_b.cell 0 _ rfl
    have q_b_1 := B_b.cell 1 _ rfl
    have q_b_2 := B_b.cell 2 _ rfl
    have q_b_3 := B_b.cell 3 _ rfl
    have q_b_4 := B_b.cell 4 _ rfl
    have q_b_5 := B_b.cell 5 _ rfl
    have q_b_6 := B_b.cell 6 _ rfl
    have q_b_7 := B_b.cell 7 _ rfl
    have q_b_8 := B_b.cell 8 _ rfl
    have q_b_9 := B_b.cell 9 _ rfl
    have q_b_10 := B_b.cell 10 _ rfl
    have q_b_11 := B_b.cell 11 _ rfl
    have q_b_12 := B_b.cell 12 _ rfl
    have fr_b := B_b.fro
    have z_b := B_b.lt
    refine (k0 _ hB).mono ?_
    rintro e w1 ⟨rfl, hb⟩
    replace B_a := B_a.below hb
    replace B_b := B_b.below hb
    replace hB := hB.trans (hb.mono hB.size)
    have sz := hb.size
    clear hb
    replace q_a_0 := B_a.cell 0 _ rfl
    replace q_a_1 := B_a.cell 1 _ rfl
    replace q_a_2 := B_a.cell 2 _ rfl
    replace q_a_3 := B_a.cell 3 _ rfl
    replace q_a_4 := B_a.cell 4 _ rfl
    replace q_a_5 := B_a.cell 5 _ rfl
    replace q_a_6 := B_a.cell 6 _ rfl
    replace q_a_7 := B_a.cell 7 _ rfl
    replace q_a_8 := B_a.cell 8 _ rfl
    replace q_a_9 := B_a.cell 9 _ rfl
    replace q_a_10 := B_a.cell 10 _ rfl
    replace q_a_11 := B_a.cell 11 _ rfl
    replace q_a_12 := B_a.cell 12 _ rfl
    replace fr_a := B_a.fro
    replace z_a := B_a.lt
    replace q_b_0 := B_b.cell 0 _ rfl
    replace q_b_1 := B_b.cell 1 _ rfl
    replace q_b_2 := B_b.cell 2 _ rfl
    replace q_b_3 := B_b.cell 3 _ rfl
    replace q_b_4 := B_b.cell 4 _ rfl
    replace q_b_5 := B_b.cell 5 _ rfl
    replace q_b_6 := B_b.cell 6 _ rfl
    replace q_b_7 := B_b.cell 7 _ rfl
    replace q_b_8 := B_b.cell 8 _ rfl
    replace q_b_9 := B_b.cell 9 _ rfl
    replace q_b_10 := B_b.cell 10 _ rfl
    replace q_b_11 := B_b.cell 11 _ rfl
    replace q_b_12 := B_b.cell 12 _ rfl
    replace fr_b := B_b.fro
    replace z_b := B_b.lt
    clear k0
    go_wp2_with fail
    go_ret
    exact ⟨ret_bool HV.out.symm, hB⟩
  | true =>
  cases c1 with
  | false =>
    replace HV : Hid (sameShelfB x y = false) := HV.out.trans (by simp)
    have B_a : Box ((w.alloc (.cells #[.slice H.Base.Mem.Heap.Bytes.a H.Base.Mem.Heap.Bytes.len H.Base.Mem.Heap.Bytes.cap, .slice H.Base.Mem.Heap.Class.a H.Base.Mem.Heap.Class.len H.Base.Mem.Heap.Class.cap, .slice H.Base.Mem.Lists.Global.a H.Base.Mem.Lists.Global.len H.Base.Mem.Lists.Global.cap, .slice H.Base.Mem.Lists.Own.a H.Base.Mem.Lists.Own.len H.Base.Mem.Lists.Own.cap, .int .i64 x.Base.Clock.Epoch, .slice H.Base.Clock.Pins.a H.Base.Clock.Pins.len H.Base.Clock.Pins.cap, .slice H.Base.Limbo.a H.Base.Limbo.len H.Base.Limbo.cap, .slice H.Base.Haz.a H.Base.Haz.len H.Base.Haz.cap, .slice H.Cells.a H.Cells.len H.Cells.cap, .slice H.Jobs.a H.Jobs.len H.Jobs.cap, .slice H.Todo.a H.Todo.len H.Todo.cap, .slice H.Log.a H.Log.len H.Log.cap, .int .i64 x.Serial] 69)).alloc (.cells #[.slice K.Base.Mem.Heap.Bytes.a K.Base.Mem.Heap.Bytes.len K.Base.Mem.Heap.Bytes.cap, .slice K.Base.Mem.Heap.Class.a K.Base.Mem.Heap.Class.len K.Base.Mem.Heap.Class.cap, .slice K.Base.Mem.Lists.Global.a K.Base.Mem.Lists.Global.len K.Base.Mem.Lists.Global.cap, .slice K.Base.Mem.Lists.Own.a K.Base.Mem.Lists.Own.len K.Base.Mem.Lists.Own.cap, .int .i64 y.Base.Clock.Epoch, .slice K.Base.Clock.Pins.a K.Base.Clock.Pins.len K.Base.Clock.Pins.cap, .slice K.Base.Limbo.a K.Base.Limbo.len K.Base.Limbo.cap, .slice K.Base.Haz.a K.Base.Haz.len K.Base.Haz.cap, .slice K.Cells.a K.Cells.len K.Cells.cap, .slice K.Jobs.a K.Jobs.len K.Jobs.cap, .slice K.Todo.a K.Todo.len K.Todo.cap, .slice K.Log.a K.Log.len K.Log.cap, .int .i64 y.Serial] 69)) (w.heap.size) [.slice H.Base.Mem.Heap.Bytes.a H.Base.Mem.Heap.Bytes.len H.Base.Mem.Heap.Bytes.cap, .slice H.Base.Mem.Heap.Class.a H.Base.Mem.Heap.Class.len H.Base.Mem.Heap.Class.cap, .slice H.Base.Mem.Lists.Global.a H.Base.Mem.Lists.Global.len H.Base.Mem.Lists.Global.cap, .slice H.Base.Mem.Lists.Own.a H.Base.Mem.Lists.Own.len H.Base.Mem.Lists.Own.cap, .int .i64 x.Base.Clock.Epoch, .slice H.Base.Clock.Pins.a H.Base.Clock.Pins.len H.Base.Clock.Pins.cap, .slice H.Base.Limbo.a H.Base.Limbo.len H.Base.Limbo.cap, .slice H.Base.Haz.a H.Base.Haz.len H.Base.Haz.cap, .slice H.Cells.a H.Cells.len H.Cells.cap, .slice H.Jobs.a H.Jobs.len H.Jobs.cap, .slice H.Todo.a H.Todo.len H.Todo.cap, .slice H.Log.a H.Log.len H.Log.cap, .int .i64 x.Serial] := by
      have hbx := Box.new w #[.slice H.Base.Mem.Heap.Bytes.a H.Base.Mem.Heap.Bytes.len H.Base.Mem.Heap.Bytes.cap, .slice H.Base.Mem.Heap.Class.a H.Base.Mem.Heap.Class.len H.Base.Mem.Heap.Class.cap, .slice H.Base.Mem.Lists.Global.a H.Base.Mem.Lists.Global.len H.Base.Mem.Lists.Global.cap, .slice H.Base.Mem.Lists.Own.a H.Base.Mem.Lists.Own.len H.Base.Mem.Lists.Own.cap, .int .i64 x.Base.Clock.Epoch, .slice H.Base.Clock.Pins.a H.Base.Clock.Pins.len H.Base.Clock.Pins.cap, .slice H.Base.Limbo.a H.Base.Limbo.len H.Base.Limbo.cap, .slice H.Base.Haz.a H.Base.Haz.len H.Base.Haz.cap, .slice H.Cells.a H.Cells.len H.Cells.cap, .slice H.Jobs.a H.Jobs.len H.Jobs.cap, .slice H.Todo.a H.Todo.len H.Todo.cap, .slice H.Log.a H.Log.len H.Log.cap, .int .i64 x.Serial] 69
      exact (hbx).alloc _
    have B_b : Box ((w.alloc (.cells #[.slice H.Base.Mem.Heap.Bytes.a H.Base.Mem.Heap.Bytes.len H.Base.Mem.Heap.Bytes.cap, .slice H.Base.Mem.Heap.Class.a H.Base.Mem.Heap.Class.len H.Base.Mem.Heap.Class.cap, .slice H.Base.Mem.Lists.Global.a H.Base.Mem.Lists.Global.len H.Base.Mem.Lists.Global.cap, .slice H.Base.Mem.Lists.Own.a H.Base.Mem.Lists.Own.len H.Base.Mem.Lists.Own.cap, .int .i64 x.Base.Clock.Epoch, .slice H.Base.Clock.Pins.a H.Base.Clock.Pins.len H.Base.Clock.Pins.cap, .slice H.Base.Limbo.a H.Base.Limbo.len H.Base.Limbo.cap, .slice H.Base.Haz.a H.Base.Haz.len H.Base.Haz.cap, .slice H.Cells.a H.Cells.len H.Cells.cap, .slice H.Jobs.a H.Jobs.len H.Jobs.cap, .slice H.Todo.a H.Todo.len H.Todo.cap, .slice H.Log.a H.Log.len H.Log.cap, .int .i64 x.Serial] 69)).alloc (.cells #[.slice K.Base.Mem.Heap.Bytes.a K.Base.Mem.Heap.Bytes.len K.Base.Mem.Heap.Bytes.cap, .slice K.Base.Mem.Heap.Class.a K.Base.Mem.Heap.Class.len K.Base.Mem.Heap.Class.cap, .slice K.Base.Mem.Lists.Global.a K.Base.Mem.Lists.Global.len K.Base.Mem.Lists.Global.cap, .slice K.Base.Mem.Lists.Own.a K.Base.Mem.Lists.Own.len K.Base.Mem.Lists.Own.cap, .int .i64 y.Base.Clock.Epoch, .slice K.Base.Clock.Pins.a K.Base.Clock.Pins.len K.Base.Clock.Pins.cap, .slice K.Base.Limbo.a K.Base.Limbo.len K.Base.Limbo.cap, .slice K.Base.Haz.a K.Base.Haz.len K.Base.Haz.cap, .slice K.Cells.a K.Cells.len K.Cells.cap, .slice K.Jobs.a K.Jobs.len K.Jobs.cap, .slice K.Todo.a K.Todo.len K.Todo.cap, .slice K.Log.a K.Log.len K.Log.cap, .int .i64 y.Serial] 69)) (w.heap.size + 1) [.slice K.Base.Mem.Heap.Bytes.a K.Base.Mem.Heap.Bytes.len K.Base.Mem.Heap.Bytes.cap, .slice K.Base.Mem.Heap.Class.a K.Base.Mem.Heap.Class.len K.Base.Mem.Heap.Class.cap, .slice K.Base.Mem.Lists.Global.a K.Base.Mem.Lists.Global.len K.Base.Mem.Lists.Global.cap, .slice K.Base.Mem.Lists.Own.a K.Base.Mem.Lists.Own.len K.Base.Mem.Lists.Own.cap, .int .i64 y.Base.Clock.Epoch, .slice K.Base.Clock.Pins.a K.Base.Clock.Pins.len K.Base.Clock.Pins.cap, .slice K.Base.Limbo.a K.Base.Limbo.len K.Base.Limbo.cap, .slice K.Base.Haz.a K.Base.Haz.len K.Base.Haz.cap, .slice K.Cells.a K.Cells.len K.Cells.cap, .slice K.Jobs.a K.Jobs.len K.Jobs.cap, .slice K.Todo.a K.Todo.len K.Todo.cap, .slice K.Log.a K.Log.len K.Log.cap, .int .i64 y.Serial] := by
      have hbx := Box.new (w.alloc (.cells #[.slice H.Base.Mem.Heap.Bytes.a H.Base.Mem.Heap.Bytes.len H.Base.Mem.Heap.Bytes.cap, .slice H.Base.Mem.Heap.Class.a H.Base.Mem.Heap.Class.len H.Base.Mem.Heap.Class.cap, .slice H.Base.Mem.Lists.Global.a H.Base.Mem.Lists.Global.len H.Base.Mem.Lists.Global.cap, .slice H.Base.Mem.Lists.Own.a H.Base.Mem.Lists.Own.len H.Base.Mem.Lists.Own.cap, .int .i64 x.Base.Clock.Epoch, .slice H.Base.Clock.Pins.a H.Base.Clock.Pins.len H.Base.Clock.Pins.cap, .slice H.Base.Limbo.a H.Base.Limbo.len H.Base.Limbo.cap, .slice H.Base.Haz.a H.Base.Haz.len H.Base.Haz.cap, .slice H.Cells.a H.Cells.len H.Cells.cap, .slice H.Jobs.a H.Jobs.len H.Jobs.cap, .slice H.Todo.a H.Todo.len H.Todo.cap, .slice H.Log.a H.Log.len H.Log.cap, .int .i64 x.Serial] 69)) #[.slice K.Base.Mem.Heap.Bytes.a K.Base.Mem.Heap.Bytes.len K.Base.Mem.Heap.Bytes.cap, .slice K.Base.Mem.Heap.Class.a K.Base.Mem.Heap.Class.len K.Base.Mem.Heap.Class.cap, .slice K.Base.Mem.Lists.Global.a K.Base.Mem.Lists.Global.len K.Base.Mem.Lists.Global.cap, .slice K.Base.Mem.Lists.Own.a K.Base.Mem.Lists.Own.len K.Base.Mem.Lists.Own.cap, .int .i64 y.Base.Clock.Epoch, .slice K.Base.Clock.Pins.a K.Base.Clock.Pins.len K.Base.Clock.Pins.cap, .slice K.Base.Limbo.a K.Base.Limbo.len K.Base.Limbo.cap, .slice K.Base.Haz.a K.Base.Haz.len K.Base.Haz.cap, .slice K.Cells.a K.Cells.len K.Cells.cap, .slice K.Jobs.a K.Jobs.len K.Jobs.cap, .slice K.Todo.a K.Todo.len K.Todo.cap, .slice K.Log.a K.Log.len K.Log.cap, .int .i64 y.Serial] 69
      simp only [World.size_alloc] at hbx
      exact hbx
    have hB : Below w.heap.size w ((w.alloc (.cells #[.slice H.Base.Mem.Heap.Bytes.a H.Base.Mem.Heap.Bytes.len H.Base.Mem.Heap.Bytes.cap, .slice H.Base.Mem.Heap.Class.a H.Base.Mem.Heap.Class.len H.Base.Mem.Heap.Class.cap, .slice H.Base.Mem.Lists.Global.a H.Base.Mem.Lists.Global.len H.Base.Mem.Lists.Global.cap, .slice H.Base.Mem.Lists.Own.a H.Base.Mem.Lists.Own.len H.Base.Mem.Lists.Own.cap, .int .i64 x.Base.Clock.Epoch, .slice H.Base.Clock.Pins.a H.Base.Clock.Pins.len H.Base.Clock.Pins.cap, .slice H.Base.Limbo.a H.Base.Limbo.len H.Base.Limbo.cap, .slice H.Base.Haz.a H.Base.Haz.len H.Base.Haz.cap, .slice H.Cells.a H.Cells.len H.Cells.cap, .slice H.Jobs.a H.Jobs.len H.Jobs.cap, .slice H.Todo.a H.Todo.len H.Todo.cap, .slice H.Log.a H.Log.len H.Log.cap, .int .i64 x.Serial] 69)).alloc (.cells #[.slice K.Base.Mem.Heap.Bytes.a K.Base.Mem.Heap.Bytes.len K.Base.Mem.Heap.Bytes.cap, .slice K.Base.Mem.Heap.Class.a K.Base.Mem.Heap.Class.len K.Base.Mem.Heap.Class.cap, .slice K.Base.Mem.Lists.Global.a K.Base.Mem.Lists.Global.len K.Base.Mem.Lists.Global.cap, .slice K.Base.Mem.Lists.Own.a K.Base.Mem.Lists.Own.len K.Base.Mem.Lists.Own.cap, .int .i64 y.Base.Clock.Epoch, .slice K.Base.Clock.Pins.a K.Base.Clock.Pins.len K.Base.Clock.Pins.cap, .slice K.Base.Limbo.a K.Base.Limbo.len K.Base.Limbo.cap, .slice K.Base.Haz.a K.Base.Haz.len K.Base.Haz.cap, .slice K.Cells.a K.Cells.len K.Cells.cap, .slice K.Jobs.a K.Jobs.len K.Jobs.cap, .slice K.Todo.a K.Todo.len K.Todo.cap, .slice K.Log.a K.Log.len K.Log.cap, .int .i64 y.Serial] 69)) := by repeat (first | exact Below.refl _ _ | refine Below.alloc ?_ (by simp <;> omega) _ | refine below_grow_of ?_ (by simp <;> omega) _ _ | refine Below.drew ?_ | refine below_drewN ?_ _)
    go_enter Try.func23, Try.ntmps23
    go_wp2_with fail
    generalize hW0 : ((w.alloc (.cells #[.slice H.Base.Mem.Heap.Bytes.a H.Base.Mem.Heap.Bytes.len H.Base.Mem.Heap.Bytes.cap, .slice H.Base.Mem.Heap.Class.a H.Base.Mem.Heap.Class.len H.Base.Mem.Heap.Class.cap, .slice H.Base.Mem.Lists.Global.a H.Base.Mem.Lists.Global.len H.Base.Mem.Lists.Global.cap, .slice H.Base.Mem.Lists.Own.a H.Base.Mem.Lists.Own.len H.Base.Mem.Lists.Own.cap, .int .i64 x.Base.Clock.Epoch, .slice H.Base.Clock.Pins.a H.Base.Clock.Pins.len H.Base.Clock.Pins.cap, .slice H.Base.Limbo.a H.Base.Limbo.len H.Base.Limbo.cap, .slice H.Base.Haz.a H.Base.Haz.len H.Base.Haz.cap, .slice H.Cells.a H.Cells.len H.Cells.cap, .slice H.Jobs.a H.Jobs.len H.Jobs.cap, .slice H.Todo.a H.Todo.len H.Todo.cap, .slice H.Log.a H.Log.len H.Log.cap, .int .i64 x.Serial] 69)).alloc (.cells #[.slice K.Base.Mem.Heap.Bytes.a K.Base.Mem.Heap.Bytes.len K.Base.Mem.Heap.Bytes.cap, .slice K.Base.Mem.Heap.Class.a K.Base.Mem.Heap.Class.len K.Base.Mem.Heap.Class.cap, .slice K.Base.Mem.Lists.Global.a K.Base.Mem.Lists.Global.len K.Base.Mem.Lists.Global.cap, .slice K.Base.Mem.Lists.Own.a K.Base.Mem.Lists.Own.len K.Base.Mem.Lists.Own.cap, .int .i64 y.Base.Clock.Epoch, .slice K.Base.Clock.Pins.a K.Base.Clock.Pins.len K.Base.Clock.Pins.cap, .slice K.Base.Limbo.a K.Base.Limbo.len K.Base.Limbo.cap, .slice K.Base.Haz.a K.Base.Haz.len K.Base.Haz.cap, .slice K.Cells.a K.Cells.len K.Cells.cap, .slice K.Jobs.a K.Jobs.len K.Jobs.cap, .slice K.Todo.a K.Todo.len K.Todo.cap, .slice K.Log.a K.Log.len K.Log.cap, .int .i64 y.Serial] 69)) = w0 at B_a B_b hB ⊢
    clear hW0
    have zz_a := B_a.lt
    have zz_b := B_b.lt
    have q_a_0 := B_a.cell 0 _ rfl
    have q_a_1 := B_a.cell 1 _ rfl
    have q_a_2 := B_a.cell 2 _ rfl
    have q_a_3 := B_a.cell 3 _ rfl
    have q_a_4 := B_a.cell 4 _ rfl
    have q_a_5 := B_a.cell 5 _ rfl
    have q_a_6 := B_a.cell 6 _ rfl
    have q_a_7 := B_a.cell 7 _ rfl
    have q_a_8 := B_a.cell 8 _ rfl
    have q_a_9 := B_a.cell 9 _ rfl
    have q_a_10 := B_a.cell 10 _ rfl
    have q_a_11 := B_a.cell 11 _ rfl
    have q_a_12 := B_a.cell 12 _ rfl
    have fr_a := B_a.fro
    have z_a := B_a.lt
    have q_b_0 := B_b.cell 0 _ rfl
    have q_b_1 := B_b.cell 1 _ rfl
    have q_b_2 := B_b.cell 2 _ rfl
    have q_b_3 := B_b.cell 3 _ rfl
    have q_b_4 := B_b.cell 4 _ rfl
    have q_b_5 := B_b.cell 5 _ rfl
    have q_b_6 := B_b.cell 6 _ rfl
    have q_b_7 := B_b.cell 7 _ rfl
    have q_b_8 := B_b.cell 8 _ rfl
    have q_b_9 := B_b.cell 9 _ rfl
    have q_b_10 := B_b.cell 10 _ rfl
    have q_b_11 := B_b.cell 11 _ rfl
    have q_b_12 := B_b.cell 12 _ rfl
    have fr_b := B_b.fro
    have z_b := B_b.lt
    refine (k0 _ hB).mono ?_
    rintro e w1 ⟨rfl, hb⟩
    replace B_a := B_a.below hb
    replace B_b := B_b.below hb
    replace hB := hB.trans (hb.mono hB.size)
    have sz := hb.size
    clear hb
    replace q_a_0 := B_a.cell 0 _ rfl
    replace q_a_1 := B_a.cell 1 _ rfl
    replace q_a_2 := B_a.cell 2 _ rfl
    replace q_a_3 := B_a.cell 3 _ rfl
    replace q_a_4 := B_a.cell 4 _ rfl
    replace q_a_5 := B_a.cell 5 _ rfl
    replace q_a_6 := B_a.cell 6 _ rfl
    replace q_a_7 := B_a.cell 7 _ rfl
    replace q_a_8 := B_a.cell 8 _ rfl
    replace q_a_9 := B_a.cell 9 _ rfl
    replace q_a_10 := B_a.cell 10 _ rfl
    replace q_a_11 := B_a.cell 11 _ rfl
    replace q_a_12 := B_a.cell 12 _ rfl
    replace fr_a := B_a.fro
    replace z_a := B_a.lt
    replace q_b_0 := B_b.cell 0 _ rfl
    replace q_b_1 := B_b.cell 1 _ rfl
    replace q_b_2 := B_b.cell 2 _ rfl
    replace q_b_3 := B_b.cell 3 _ rfl
    replace q_b_4 := B_b.cell 4 _ rfl
    replace q_b_5 := B_b.cell 5 _ rfl
    replace q_b_6 := B_b.cell 6 _ rfl
    replace q_b_7 := B_b.cell 7 _ rfl
    replace q_b_8 := B_b.cell 8 _ rfl
    replace q_b_9 := B_b.cell 9 _ rfl
    replace q_b_10 := B_b.cell 10 _ rfl
    replace q_b_11 := B_b.cell 11 _ rfl
    replace q_b_12 := B_b.cell 12 _ rfl
    replace fr_b := B_b.fro
    replace z_b := B_b.lt
    clear k0
    go_wp2_with fail
    refine (k1 _ hB).mono ?_
    rintro e w2 ⟨rfl, hb⟩
    replace B_a := B_a.below hb
    replace B_b := B_b.below hb
    replace hB := hB.trans (hb.mono hB.size)
    have sz := hb.size
    clear hb
    replace q_a_0 := B_a.cell 0 _ rfl
    replace q_a_1 := B_a.cell 1 _ rfl
    replace q_a_2 := B_a.cell 2 _ rfl
    replace q_a_3 := B_a.cell 3 _ rfl
    replace q_a_4 := B_a.cell 4 _ rfl
    replace q_a_5 := B_a.cell 5 _ rfl
    replace q_a_6 := B_a.cell 6 _ rfl
    replace q_a_7 := B_a.cell 7 _ rfl
    replace q_a_8 := B_a.cell 8 _ rfl
    replace q_a_9 := B_a.cell 9 _ rfl
    replace q_a_10 := B_a.cell 10 _ rfl
    replace q_a_11 := B_a.cell 11 _ rfl
    replace q_a_12 := B_a.cell 12 _ rfl
    replace fr_a := B_a.fro
    replace z_a := B_a.lt
    replace q_b_0 := B_b.cell 0 _ rfl
    replace q_b_1 := B_b.cell 1 _ rfl
    replace q_b_2 := B_b.cell 2 _ rfl
    replace q_b_3 := B_b.cell 3 _ rfl
    replace q_b_4 := B_b.cell 4 _ rfl
    replace q_b_5 := B_b.cell 5 _ rfl
    replace q_b_6 := B_b.cell 6 _ rfl
    replace q_b_7 := B_b.cell 7 _ rfl
    replace q_b_8 := B_b.cell 8 _ rfl
    replace q_b_9 := B_b.cell 9 _ rfl
    replace q_b_10 := B_b.cell 10 _ rfl
    replace q_b_11 := B_b.cell 11 _ rfl
    replace q_b_12 := B_b.cell 12 _ rfl
    replace fr_b := B_b.fro
    replace z_b := B_b.lt
    clear k1
    go_wp2_with fail
    go_ret
    exact ⟨ret_bool HV.out.symm, hB⟩
  | true =>
  cases c2 with
  | false =>
    replace HV : Hid (sameShelfB x y = false) := HV.out.trans (by simp)
    have B_a : Box ((w.alloc (.cells #[.slice H.Base.Mem.Heap.Bytes.a H.Base.Mem.Heap.Bytes.len H.Base.Mem.Heap.Bytes.cap, .slice H.Base.Mem.Heap.Class.a H.Base.Mem.Heap.Class.len H.Base.Mem.Heap.Class.cap, .slice H.Base.Mem.Lists.Global.a H.Base.Mem.Lists.Global.len H.Base.Mem.Lists.Global.cap, .slice H.Base.Mem.Lists.Own.a H.Base.Mem.Lists.Own.len H.Base.Mem.Lists.Own.cap, .int .i64 x.Base.Clock.Epoch, .slice H.Base.Clock.Pins.a H.Base.Clock.Pins.len H.Base.Clock.Pins.cap, .slice H.Base.Limbo.a H.Base.Limbo.len H.Base.Limbo.cap, .slice H.Base.Haz.a H.Base.Haz.len H.Base.Haz.cap, .slice H.Cells.a H.Cells.len H.Cells.cap, .slice H.Jobs.a H.Jobs.len H.Jobs.cap, .slice H.Todo.a H.Todo.len H.Todo.cap, .slice H.Log.a H.Log.len H.Log.cap, .int .i64 x.Serial] 69)).alloc (.cells #[.slice K.Base.Mem.Heap.Bytes.a K.Base.Mem.Heap.Bytes.len K.Base.Mem.Heap.Bytes.cap, .slice K.Base.Mem.Heap.Class.a K.Base.Mem.Heap.Class.len K.Base.Mem.Heap.Class.cap, .slice K.Base.Mem.Lists.Global.a K.Base.Mem.Lists.Global.len K.Base.Mem.Lists.Global.cap, .slice K.Base.Mem.Lists.Own.a K.Base.Mem.Lists.Own.len K.Base.Mem.Lists.Own.cap, .int .i64 y.Base.Clock.Epoch, .slice K.Base.Clock.Pins.a K.Base.Clock.Pins.len K.Base.Clock.Pins.cap, .slice K.Base.Limbo.a K.Base.Limbo.len K.Base.Limbo.cap, .slice K.Base.Haz.a K.Base.Haz.len K.Base.Haz.cap, .slice K.Cells.a K.Cells.len K.Cells.cap, .slice K.Jobs.a K.Jobs.len K.Jobs.cap, .slice K.Todo.a K.Todo.len K.Todo.cap, .slice K.Log.a K.Log.len K.Log.cap, .int .i64 y.Serial] 69)) (w.heap.size) [.slice H.Base.Mem.Heap.Bytes.a H.Base.Mem.Heap.Bytes.len H.Base.Mem.Heap.Bytes.cap, .slice H.Base.Mem.Heap.Class.a H.Base.Mem.Heap.Class.len H.Base.Mem.Heap.Class.cap, .slice H.Base.Mem.Lists.Global.a H.Base.Mem.Lists.Global.len H.Base.Mem.Lists.Global.cap, .slice H.Base.Mem.Lists.Own.a H.Base.Mem.Lists.Own.len H.Base.Mem.Lists.Own.cap, .int .i64 x.Base.Clock.Epoch, .slice H.Base.Clock.Pins.a H.Base.Clock.Pins.len H.Base.Clock.Pins.cap, .slice H.Base.Limbo.a H.Base.Limbo.len H.Base.Limbo.cap, .slice H.Base.Haz.a H.Base.Haz.len H.Base.Haz.cap, .slice H.Cells.a H.Cells.len H.Cells.cap, .slice H.Jobs.a H.Jobs.len H.Jobs.cap, .slice H.Todo.a H.Todo.len H.Todo.cap, .slice H.Log.a H.Log.len H.Log.cap, .int .i64 x.Serial] := by
      have hbx := Box.new w #[.slice H.Base.Mem.Heap.Bytes.a H.Base.Mem.Heap.Bytes.len H.Base.Mem.Heap.Bytes.cap, .slice H.Base.Mem.Heap.Class.a H.Base.Mem.Heap.Class.len H.Base.Mem.Heap.Class.cap, .slice H.Base.Mem.Lists.Global.a H.Base.Mem.Lists.Global.len H.Base.Mem.Lists.Global.cap, .slice H.Base.Mem.Lists.Own.a H.Base.Mem.Lists.Own.len H.Base.Mem.Lists.Own.cap, .int .i64 x.Base.Clock.Epoch, .slice H.Base.Clock.Pins.a H.Base.Clock.Pins.len H.Base.Clock.Pins.cap, .slice H.Base.Limbo.a H.Base.Limbo.len H.Base.Limbo.cap, .slice H.Base.Haz.a H.Base.Haz.len H.Base.Haz.cap, .slice H.Cells.a H.Cells.len H.Cells.cap, .slice H.Jobs.a H.Jobs.len H.Jobs.cap, .slice H.Todo.a H.Todo.len H.Todo.cap, .slice H.Log.a H.Log.len H.Log.cap, .int .i64 x.Serial] 69
      exact (hbx).alloc _
    have B_b : Box ((w.alloc (.cells #[.slice H.Base.Mem.Heap.Bytes.a H.Base.Mem.Heap.Bytes.len H.Base.Mem.Heap.Bytes.cap, .slice H.Base.Mem.Heap.Class.a H.Base.Mem.Heap.Class.len H.Base.Mem.Heap.Class.cap, .slice H.Base.Mem.Lists.Global.a H.Base.Mem.Lists.Global.len H.Base.Mem.Lists.Global.cap, .slice H.Base.Mem.Lists.Own.a H.Base.Mem.Lists.Own.len H.Base.Mem.Lists.Own.cap, .int .i64 x.Base.Clock.Epoch, .slice H.Base.Clock.Pins.a H.Base.Clock.Pins.len H.Base.Clock.Pins.cap, .slice H.Base.Limbo.a H.Base.Limbo.len H.Base.Limbo.cap, .slice H.Base.Haz.a H.Base.Haz.len H.Base.Haz.cap, .slice H.Cells.a H.Cells.len H.Cells.cap, .slice H.Jobs.a H.Jobs.len H.Jobs.cap, .slice H.Todo.a H.Todo.len H.Todo.cap, .slice H.Log.a H.Log.len H.Log.cap, .int .i64 x.Serial] 69)).alloc (.cells #[.slice K.Base.Mem.Heap.Bytes.a K.Base.Mem.Heap.Bytes.len K.Base.Mem.Heap.Bytes.cap, .slice K.Base.Mem.Heap.Class.a K.Base.Mem.Heap.Class.len K.Base.Mem.Heap.Class.cap, .slice K.Base.Mem.Lists.Global.a K.Base.Mem.Lists.Global.len K.Base.Mem.Lists.Global.cap, .slice K.Base.Mem.Lists.Own.a K.Base.Mem.Lists.Own.len K.Base.Mem.Lists.Own.cap, .int .i64 y.Base.Clock.Epoch, .slice K.Base.Clock.Pins.a K.Base.Clock.Pins.len K.Base.Clock.Pins.cap, .slice K.Base.Limbo.a K.Base.Limbo.len K.Base.Limbo.cap, .slice K.Base.Haz.a K.Base.Haz.len K.Base.Haz.cap, .slice K.Cells.a K.Cells.len K.Cells.cap, .slice K.Jobs.a K.Jobs.len K.Jobs.cap, .slice K.Todo.a K.Todo.len K.Todo.cap, .slice K.Log.a K.Log.len K.Log.cap, .int .i64 y.Serial] 69)) (w.heap.size + 1) [.slice K.Base.Mem.Heap.Bytes.a K.Base.Mem.Heap.Bytes.len K.Base.Mem.Heap.Bytes.cap, .slice K.Base.Mem.Heap.Class.a K.Base.Mem.Heap.Class.len K.Base.Mem.Heap.Class.cap, .slice K.Base.Mem.Lists.Global.a K.Base.Mem.Lists.Global.len K.Base.Mem.Lists.Global.cap, .slice K.Base.Mem.Lists.Own.a K.Base.Mem.Lists.Own.len K.Base.Mem.Lists.Own.cap, .int .i64 y.Base.Clock.Epoch, .slice K.Base.Clock.Pins.a K.Base.Clock.Pins.len K.Base.Clock.Pins.cap, .slice K.Base.Limbo.a K.Base.Limbo.len K.Base.Limbo.cap, .slice K.Base.Haz.a K.Base.Haz.len K.Base.Haz.cap, .slice K.Cells.a K.Cells.len K.Cells.cap, .slice K.Jobs.a K.Jobs.len K.Jobs.cap, .slice K.Todo.a K.Todo.len K.Todo.cap, .slice K.Log.a K.Log.len K.Log.cap, .int .i64 y.Serial] := by
      have hbx := Box.new (w.alloc (.cells #[.slice H.Base.Mem.Heap.Bytes.a H.Base.Mem.Heap.Bytes.len H.Base.Mem.Heap.Bytes.cap, .slice H.Base.Mem.Heap.Class.a H.Base.Mem.Heap.Class.len H.Base.Mem.Heap.Class.cap, .slice H.Base.Mem.Lists.Global.a H.Base.Mem.Lists.Global.len H.Base.Mem.Lists.Global.cap, .slice H.Base.Mem.Lists.Own.a H.Base.Mem.Lists.Own.len H.Base.Mem.Lists.Own.cap, .int .i64 x.Base.Clock.Epoch, .slice H.Base.Clock.Pins.a H.Base.Clock.Pins.len H.Base.Clock.Pins.cap, .slice H.Base.Limbo.a H.Base.Limbo.len H.Base.Limbo.cap, .slice H.Base.Haz.a H.Base.Haz.len H.Base.Haz.cap, .slice H.Cells.a H.Cells.len H.Cells.cap, .slice H.Jobs.a H.Jobs.len H.Jobs.cap, .slice H.Todo.a H.Todo.len H.Todo.cap, .slice H.Log.a H.Log.len H.Log.cap, .int .i64 x.Serial] 69)) #[.slice K.Base.Mem.Heap.Bytes.a K.Base.Mem.Heap.Bytes.len K.Base.Mem.Heap.Bytes.cap, .slice K.Base.Mem.Heap.Class.a K.Base.Mem.Heap.Class.len K.Base.Mem.Heap.Class.cap, .slice K.Base.Mem.Lists.Global.a K.Base.Mem.Lists.Global.len K.Base.Mem.Lists.Global.cap, .slice K.Base.Mem.Lists.Own.a K.Base.Mem.Lists.Own.len K.Base.Mem.Lists.Own.cap, .int .i64 y.Base.Clock.Epoch, .slice K.Base.Clock.Pins.a K.Base.Clock.Pins.len K.Base.Clock.Pins.cap, .slice K.Base.Limbo.a K.Base.Limbo.len K.Base.Limbo.cap, .slice K.Base.Haz.a K.Base.Haz.len K.Base.Haz.cap, .slice K.Cells.a K.Cells.len K.Cells.cap, .slice K.Jobs.a K.Jobs.len K.Jobs.cap, .slice K.Todo.a K.Todo.len K.Todo.cap, .slice K.Log.a K.Log.len K.Log.cap, .int .i64 y.Serial] 69
      simp only [World.size_alloc] at hbx
      exact hbx
    have hB : Below w.heap.size w ((w.alloc (.cells #[.slice H.Base.Mem.Heap.Bytes.a H.Base.Mem.Heap.Bytes.len H.Base.Mem.Heap.Bytes.cap, .slice H.Base.Mem.Heap.Class.a H.Base.Mem.Heap.Class.len H.Base.Mem.Heap.Class.cap, .slice H.Base.Mem.Lists.Global.a H.Base.Mem.Lists.Global.len H.Base.Mem.Lists.Global.cap, .slice H.Base.Mem.Lists.Own.a H.Base.Mem.Lists.Own.len H.Base.Mem.Lists.Own.cap, .int .i64 x.Base.Clock.Epoch, .slice H.Base.Clock.Pins.a H.Base.Clock.Pins.len H.Base.Clock.Pins.cap, .slice H.Base.Limbo.a H.Base.Limbo.len H.Base.Limbo.cap, .slice H.Base.Haz.a H.Base.Haz.len H.Base.Haz.cap, .slice H.Cells.a H.Cells.len H.Cells.cap, .slice H.Jobs.a H.Jobs.len H.Jobs.cap, .slice H.Todo.a H.Todo.len H.Todo.cap, .slice H.Log.a H.Log.len H.Log.cap, .int .i64 x.Serial] 69)).alloc (.cells #[.slice K.Base.Mem.Heap.Bytes.a K.Base.Mem.Heap.Bytes.len K.Base.Mem.Heap.Bytes.cap, .slice K.Base.Mem.Heap.Class.a K.Base.Mem.Heap.Class.len K.Base.Mem.Heap.Class.cap, .slice K.Base.Mem.Lists.Global.a K.Base.Mem.Lists.Global.len K.Base.Mem.Lists.Global.cap, .slice K.Base.Mem.Lists.Own.a K.Base.Mem.Lists.Own.len K.Base.Mem.Lists.Own.cap, .int .i64 y.Base.Clock.Epoch, .slice K.Base.Clock.Pins.a K.Base.Clock.Pins.len K.Base.Clock.Pins.cap, .slice K.Base.Limbo.a K.Base.Limbo.len K.Base.Limbo.cap, .slice K.Base.Haz.a K.Base.Haz.len K.Base.Haz.cap, .slice K.Cells.a K.Cells.len K.Cells.cap, .slice K.Jobs.a K.Jobs.len K.Jobs.cap, .slice K.Todo.a K.Todo.len K.Todo.cap, .slice K.Log.a K.Log.len K.Log.cap, .int .i64 y.Serial] 69)) := by repeat (first | exact Below.refl _ _ | refine Below.alloc ?_ (by simp <;> omega) _ | refine below_grow_of ?_ (by simp <;> omega) _ _ | refine Below.drew ?_ | refine below_drewN ?_ _)
    go_enter Try.func23, Try.ntmps23
    go_wp2_with fail
    generalize hW0 : ((w.alloc (.cells #[.slice H.Base.Mem.Heap.Bytes.a H.Base.Mem.Heap.Bytes.len H.Base.Mem.Heap.Bytes.cap, .slice H.Base.Mem.Heap.Class.a H.Base.Mem.Heap.Class.len H.Base.Mem.Heap.Class.cap, .slice H.Base.Mem.Lists.Global.a H.Base.Mem.Lists.Global.len H.Base.Mem.Lists.Global.cap, .slice H.Base.Mem.Lists.Own.a H.Base.Mem.Lists.Own.len H.Base.Mem.Lists.Own.cap, .int .i64 x.Base.Clock.Epoch, .slice H.Base.Clock.Pins.a H.Base.Clock.Pins.len H.Base.Clock.Pins.cap, .slice H.Base.Limbo.a H.Base.Limbo.len H.Base.Limbo.cap, .slice H.Base.Haz.a H.Base.Haz.len H.Base.Haz.cap, .slice H.Cells.a H.Cells.len H.Cells.cap, .slice H.Jobs.a H.Jobs.len H.Jobs.cap, .slice H.Todo.a H.Todo.len H.Todo.cap, .slice H.Log.a H.Log.len H.Log.cap, .int .i64 x.Serial] 69)).alloc (.cells #[.slice K.Base.Mem.Heap.Bytes.a K.Base.Mem.Heap.Bytes.len K.Base.Mem.Heap.Bytes.cap, .slice K.Base.Mem.Heap.Class.a K.Base.Mem.Heap.Class.len K.Base.Mem.Heap.Class.cap, .slice K.Base.Mem.Lists.Global.a K.Base.Mem.Lists.Global.len K.Base.Mem.Lists.Global.cap, .slice K.Base.Mem.Lists.Own.a K.Base.Mem.Lists.Own.len K.Base.Mem.Lists.Own.cap, .int .i64 y.Base.Clock.Epoch, .slice K.Base.Clock.Pins.a K.Base.Clock.Pins.len K.Base.Clock.Pins.cap, .slice K.Base.Limbo.a K.Base.Limbo.len K.Base.Limbo.cap, .slice K.Base.Haz.a K.Base.Haz.len K.Base.Haz.cap, .slice K.Cells.a K.Cells.len K.Cells.cap, .slice K.Jobs.a K.Jobs.len K.Jobs.cap, .slice K.Todo.a K.Todo.len K.Todo.cap, .slice K.Log.a K.Log.len K.Log.cap, .int .i64 y.Serial] 69)) = w0 at B_a B_b hB ⊢
    clear hW0
    have zz_a := B_a.lt
    have zz_b := B_b.lt
    have q_a_0 := B_a.cell 0 _ rfl
    have q_a_1 := B_a.cell 1 _ rfl
    have q_a_2 := B_a.cell 2 _ rfl
    have q_a_3 := B_a.cell 3 _ rfl
    have q_a_4 := B_a.cell 4 _ rfl
    have q_a_5 := B_a.cell 5 _ rfl
    have q_a_6 := B_a.cell 6 _ rfl
    have q_a_7 := B_a.cell 7 _ rfl
    have q_a_8 := B_a.cell 8 _ rfl
    have q_a_9 := B_a.cell 9 _ rfl
    have q_a_10 := B_a.cell 10 _ rfl
    have q_a_11 := B_a.cell 11 _ rfl
    have q_a_12 := B_a.cell 12 _ rfl
    have fr_a := B_a.fro
    have z_a := B_a.lt
    have q_b_0 := B_b.cell 0 _ rfl
    have q_b_1 := B_b.cell 1 _ rfl
    have q_b_2 := B_b.cell 2 _ rfl
    have q_b_3 := B_b.cell 3 _ rfl
    have q_b_4 := B_b.cell 4 _ rfl
    have q_b_5 := B_b.cell 5 _ rfl
    have q_b_6 := B_b.cell 6 _ rfl
    have q_b_7 := B_b.cell 7 _ rfl
    have q_b_8 := B_b.cell 8 _ rfl
    have q_b_9 := B_b.cell 9 _ rfl
    have q_b_10 := B_b.cell 10 _ rfl
    have q_b_11 := B_b.cell 11 _ rfl
    have q_b_12 := B_b.cell 12 _ rfl
    have fr_b := B_b.fro
    have z_b := B_b.lt
    refine (k0 _ hB).mono ?_
    rintro e w1 ⟨rfl, hb⟩
    replace B_a := B_a.below hb
    replace B_b := B_b.below hb
    replace hB := hB.trans (hb.mono hB.size)
    have sz := hb.size
    clear hb
    replace q_a_0 := B_a.cell 0 _ rfl
    replace q_a_1 := B_a.cell 1 _ rfl
    replace q_a_2 := B_a.cell 2 _ rfl
    replace q_a_3 := B_a.cell 3 _ rfl
    replace q_a_4 := B_a.cell 4 _ rfl
    replace q_a_5 := B_a.cell 5 _ rfl
    replace q_a_6 := B_a.cell 6 _ rfl
    replace q_a_7 := B_a.cell 7 _ rfl
    replace q_a_8 := B_a.cell 8 _ rfl
    replace q_a_9 := B_a.cell 9 _ rfl
    replace q_a_10 := B_a.cell 10 _ rfl
    replace q_a_11 := B_a.cell 11 _ rfl
    replace q_a_12 := B_a.cell 12 _ rfl
    replace fr_a := B_a.fro
    replace z_a := B_a.lt
    replace q_b_0 := B_b.cell 0 _ rfl
    replace q_b_1 := B_b.cell 1 _ rfl
    replace q_b_2 := B_b.cell 2 _ rfl
    replace q_b_3 := B_b.cell 3 _ rfl
    replace q_b_4 := B_b.cell 4 _ rfl
    replace q_b_5 := B_b.cell 5 _ rfl
    replace q_b_6 := B_b.cell 6 _ rfl
    replace q_b_7 := B_b.cell 7 _ rfl
    replace q_b_8 := B_b.cell 8 _ rfl
    replace q_b_9 := B_b.cell 9 _ rfl
    replace q_b_10 := B_b.cell 10 _ rfl
    replace q_b_11 := B_b.cell 11 _ rfl
    replace q_b_12 := B_b.cell 12 _ rfl
    replace fr_b := B_b.fro
    replace z_b := B_b.lt
    clear k0
    go_wp2_with fail
    refine (k1 _ hB).mono ?_
    rintro e w2 ⟨rfl, hb⟩
    replace B_a := B_a.below hb
    replace B_b := B_b.below hb
    replace hB := hB.trans (hb.mono hB.size)
    have sz := hb.size
    clear hb
    replace q_a_0 := B_a.cell 0 _ rfl
    replace q_a_1 := B_a.cell 1 _ rfl
    replace q_a_2 := B_a.cell 2 _ rfl
    replace q_a_3 := B_a.cell 3 _ rfl
    replace q_a_4 := B_a.cell 4 _ rfl
    replace q_a_5 := B_a.cell 5 _ rfl
    replace q_a_6 := B_a.cell 6 _ rfl
    replace q_a_7 := B_a.cell 7 _ rfl
    replace q_a_8 := B_a.cell 8 _ rfl
    replace q_a_9 := B_a.cell 9 _ rfl
    replace q_a_10 := B_a.cell 10 _ rfl
    replace q_a_11 := B_a.cell 11 _ rfl
    replace q_a_12 := B_a.cell 12 _ rfl
    replace fr_a := B_a.fro
    replace z_a := B_a.lt
    replace q_b_0 := B_b.cell 0 _ rfl
    replace q_b_1 := B_b.cell 1 _ rfl
    replace q_b_2 := B_b.cell 2 _ rfl
    replace q_b_3 := B_b.cell 3 _ rfl
    replace q_b_4 := B_b.cell 4 _ rfl
    replace q_b_5 := B_b.cell 5 _ rfl
    replace q_b_6 := B_b.cell 6 _ rfl
    replace q_b_7 := B_b.cell 7 _ rfl
    replace q_b_8 := B_b.cell 8 _ rfl
    replace q_b_9 := B_b.cell 9 _ rfl
    replace q_b_10 := B_b.cell 10 _ rfl
    replace q_b_11 := B_b.cell 11 _ rfl
    replace q_b_12 := B_b.cell 12 _ rfl
    replace fr_b := B_b.fro
    replace z_b := B_b.lt
    clear k1
    go_wp2_with fail
    refine (k2 _ hB).mono ?_
    rintro e w3 ⟨rfl, hb⟩
    replace B_a := B_a.below hb
    replace B_b := B_b.below hb
    replace hB := hB.trans (hb.mono hB.size)
    have sz := hb.size
    clear hb
    replace q_a_0 := B_a.cell 0 _ rfl
    replace q_a_1 := B_a.cell 1 _ rfl
    replace q_a_2 := B_a.cell 2 _ rfl
    replace q_a_3 := B_a.cell 3 _ rfl
    replace q_a_4 := B_a.cell 4 _ rfl
    replace q_a_5 := B_a.cell 5 _ rfl
    replace q_a_6 := B_a.cell 6 _ rfl
    replace q_a_7 := B_a.cell 7 _ rfl
    replace q_a_8 := B_a.cell 8 _ rfl
    replace q_a_9 := B_a.cell 9 _ rfl
    replace q_a_10 := B_a.cell 10 _ rfl
    replace q_a_11 := B_a.cell 11 _ rfl
    replace q_a_12 := B_a.cell 12 _ rfl
    replace fr_a := B_a.fro
    replace z_a := B_a.lt
    replace q_b_0 := B_b.cell 0 _ rfl
    replace q_b_1 := B_b.cell 1 _ rfl
    replace q_b_2 := B_b.cell 2 _ rfl
    replace q_b_3 := B_b.cell 3 _ rfl
    replace q_b_4 := B_b.cell 4 _ rfl
    replace q_b_5 := B_b.cell 5 _ rfl
    replace q_b_6 := B_b.cell 6 _ rfl
    replace q_b_7 := B_b.cell 7 _ rfl
    replace q_b_8 := B_b.cell 8 _ rfl
    replace q_b_9 := B_b.cell 9 _ rfl
    replace q_b_10 := B_b.cell 10 _ rfl
    replace q_b_11 := B_b.cell 11 _ rfl
    replace q_b_12 := B_b.cell 12 _ rfl
    replace fr_b := B_b.fro
    replace z_b := B_b.lt
    clear k2
    go_wp2_with fail
    go_ret
    exact ⟨ret_bool HV.out.symm, hB⟩
  | true =>
  cases c3 with
  | false =>
    replace HV : Hid (sameShelfB x y = false) := HV.out.trans (by simp)
    have B_a : Box ((w.alloc (.cells #[.slice H.Base.Mem.Heap.Bytes.a H.Base.Mem.Heap.Bytes.len H.Base.Mem.Heap.Bytes.cap, .slice H.Base.Mem.Heap.Class.a H.Base.Mem.Heap.Class.len H.Base.Mem.Heap.Class.cap, .slice H.Base.Mem.Lists.Global.a H.Base.Mem.Lists.Global.len H.Base.Mem.Lists.Global.cap, .slice H.Base.Mem.Lists.Own.a H.Base.Mem.Lists.Own.len H.Base.Mem.Lists.Own.cap, .int .i64 x.Base.Clock.Epoch, .slice H.Base.Clock.Pins.a H.Base.Clock.Pins.len H.Base.Clock.Pins.cap, .slice H.Base.Limbo.a H.Base.Limbo.len H.Base.Limbo.cap, .slice H.Base.Haz.a H.Base.Haz.len H.Base.Haz.cap, .slice H.Cells.a H.Cells.len H.Cells.cap, .slice H.Jobs.a H.Jobs.len H.Jobs.cap, .slice H.Todo.a H.Todo.len H.Todo.cap, .slice H.Log.a H.Log.len H.Log.cap, .int .i64 x.Serial] 69)).alloc (.cells #[.slice K.Base.Mem.Heap.Bytes.a K.Base.Mem.Heap.Bytes.len K.Base.Mem.Heap.Bytes.cap, .slice K.Base.Mem.Heap.Class.a K.Base.Mem.Heap.Class.len K.Base.Mem.Heap.Class.cap, .slice K.Base.Mem.Lists.Global.a K.Base.Mem.Lists.Global.len K.Base.Mem.Lists.Global.cap, .slice K.Base.Mem.Lists.Own.a K.Base.Mem.Lists.Own.len K.Base.Mem.Lists.Own.cap, .int .i64 y.Base.Clock.Epoch, .slice K.Base.Clock.Pins.a K.Base.Clock.Pins.len K.Base.Clock.Pins.cap, .slice K.Base.Limbo.a K.Base.Limbo.len K.Base.Limbo.cap, .slice K.Base.Haz.a K.Base.Haz.len K.Base.Haz.cap, .slice K.Cells.a K.Cells.len K.Cells.cap, .slice K.Jobs.a K.Jobs.len K.Jobs.cap, .slice K.Todo.a K.Todo.len K.Todo.cap, .slice K.Log.a K.Log.len K.Log.cap, .int .i64 y.Serial] 69)) (w.heap.size) [.slice H.Base.Mem.Heap.Bytes.a H.Base.Mem.Heap.Bytes.len H.Base.Mem.Heap.Bytes.cap, .slice H.Base.Mem.Heap.Class.a H.Base.Mem.Heap.Class.len H.Base.Mem.Heap.Class.cap, .slice H.Base.Mem.Lists.Global.a H.Base.Mem.Lists.Global.len H.Base.Mem.Lists.Global.cap, .slice H.Base.Mem.Lists.Own.a H.Base.Mem.Lists.Own.len H.Base.Mem.Lists.Own.cap, .int .i64 x.Base.Clock.Epoch, .slice H.Base.Clock.Pins.a H.Base.Clock.Pins.len H.Base.Clock.Pins.cap, .slice H.Base.Limbo.a H.Base.Limbo.len H.Base.Limbo.cap, .slice H.Base.Haz.a H.Base.Haz.len H.Base.Haz.cap, .slice H.Cells.a H.Cells.len H.Cells.cap, .slice H.Jobs.a H.Jobs.len H.Jobs.cap, .slice H.Todo.a H.Todo.len H.Todo.cap, .slice H.Log.a H.Log.len H.Log.cap, .int .i64 x.Serial] := by
      have hbx := Box.new w #[.slice H.Base.Mem.Heap.Bytes.a H.Base.Mem.Heap.Bytes.len H.Base.Mem.Heap.Bytes.cap, .slice H.Base.Mem.Heap.Class.a H.Base.Mem.Heap.Class.len H.Base.Mem.Heap.Class.cap, .slice H.Base.Mem.Lists.Global.a H.Base.Mem.Lists.Global.len H.Base.Mem.Lists.Global.cap, .slice H.Base.Mem.Lists.Own.a H.Base.Mem.Lists.Own.len H.Base.Mem.Lists.Own.cap, .int .i64 x.Base.Clock.Epoch, .slice H.Base.Clock.Pins.a H.Base.Clock.Pins.len H.Base.Clock.Pins.cap, .slice H.Base.Limbo.a H.Base.Limbo.len H.Base.Limbo.cap, .slice H.Base.Haz.a H.Base.Haz.len H.Base.Haz.cap, .slice H.Cells.a H.Cells.len H.Cells.cap, .slice H.Jobs.a H.Jobs.len H.Jobs.cap, .slice H.Todo.a H.Todo.len H.Todo.cap, .slice H.Log.a H.Log.len H.Log.cap, .int .i64 x.Serial] 69
      exact (hbx).alloc _
    have B_b : Box ((w.alloc (.cells #[.slice H.Base.Mem.Heap.Bytes.a H.Base.Mem.Heap.Bytes.len H.Base.Mem.Heap.Bytes.cap, .slice H.Base.Mem.Heap.Class.a H.Base.Mem.Heap.Class.len H.Base.Mem.Heap.Class.cap, .slice H.Base.Mem.Lists.Global.a H.Base.Mem.Lists.Global.len H.Base.Mem.Lists.Global.cap, .slice H.Base.Mem.Lists.Own.a H.Base.Mem.Lists.Own.len H.Base.Mem.Lists.Own.cap, .int .i64 x.Base.Clock.Epoch, .slice H.Base.Clock.Pins.a H.Base.Clock.Pins.len H.Base.Clock.Pins.cap, .slice H.Base.Limbo.a H.Base.Limbo.len H.Base.Limbo.cap, .slice H.Base.Haz.a H.Base.Haz.len H.Base.Haz.cap, .slice H.Cells.a H.Cells.len H.Cells.cap, .slice H.Jobs.a H.Jobs.len H.Jobs.cap, .slice H.Todo.a H.Todo.len H.Todo.cap, .slice H.Log.a H.Log.len H.Log.cap, .int .i64 x.Serial] 69)).alloc (.cells #[.slice K.Base.Mem.Heap.Bytes.a K.Base.Mem.Heap.Bytes.len K.Base.Mem.Heap.Bytes.cap, .slice K.Base.Mem.Heap.Class.a K.Base.Mem.Heap.Class.len K.Base.Mem.Heap.Class.cap, .slice K.Base.Mem.Lists.Global.a K.Base.Mem.Lists.Global.len K.Base.Mem.Lists.Global.cap, .slice K.Base.Mem.Lists.Own.a K.Base.Mem.Lists.Own.len K.Base.Mem.Lists.Own.cap, .int .i64 y.Base.Clock.Epoch, .slice K.Base.Clock.Pins.a K.Base.Clock.Pins.len K.Base.Clock.Pins.cap, .slice K.Base.Limbo.a K.Base.Limbo.len K.Base.Limbo.cap, .slice K.Base.Haz.a K.Base.Haz.len K.Base.Haz.cap, .slice K.Cells.a K.Cells.len K.Cells.cap, .slice K.Jobs.a K.Jobs.len K.Jobs.cap, .slice K.Todo.a K.Todo.len K.Todo.cap, .slice K.Log.a K.Log.len K.Log.cap, .int .i64 y.Serial] 69)) (w.heap.size + 1) [.slice K.Base.Mem.Heap.Bytes.a K.Base.Mem.Heap.Bytes.len K.Base.Mem.Heap.Bytes.cap, .slice K.Base.Mem.Heap.Class.a K.Base.Mem.Heap.Class.len K.Base.Mem.Heap.Class.cap, .slice K.Base.Mem.Lists.Global.a K.Base.Mem.Lists.Global.len K.Base.Mem.Lists.Global.cap, .slice K.Base.Mem.Lists.Own.a K.Base.Mem.Lists.Own.len K.Base.Mem.Lists.Own.cap, .int .i64 y.Base.Clock.Epoch, .slice K.Base.Clock.Pins.a K.Base.Clock.Pins.len K.Base.Clock.Pins.cap, .slice K.Base.Limbo.a K.Base.Limbo.len K.Base.Limbo.cap, .slice K.Base.Haz.a K.Base.Haz.len K.Base.Haz.cap, .slice K.Cells.a K.Cells.len K.Cells.cap, .slice K.Jobs.a K.Jobs.len K.Jobs.cap, .slice K.Todo.a K.Todo.len K.Todo.cap, .slice K.Log.a K.Log.len K.Log.cap, .int .i64 y.Serial] := by
      have hbx := Box.new (w.alloc (.cells #[.slice H.Base.Mem.Heap.Bytes.a H.Base.Mem.Heap.Bytes.len H.Base.Mem.Heap.Bytes.cap, .slice H.Base.Mem.Heap.Class.a H.Base.Mem.Heap.Class.len H.Base.Mem.Heap.Class.cap, .slice H.Base.Mem.Lists.Global.a H.Base.Mem.Lists.Global.len H.Base.Mem.Lists.Global.cap, .slice H.Base.Mem.Lists.Own.a H.Base.Mem.Lists.Own.len H.Base.Mem.Lists.Own.cap, .int .i64 x.Base.Clock.Epoch, .slice H.Base.Clock.Pins.a H.Base.Clock.Pins.len H.Base.Clock.Pins.cap, .slice H.Base.Limbo.a H.Base.Limbo.len H.Base.Limbo.cap, .slice H.Base.Haz.a H.Base.Haz.len H.Base.Haz.cap, .slice H.Cells.a H.Cells.len H.Cells.cap, .slice H.Jobs.a H.Jobs.len H.Jobs.cap, .slice H.Todo.a H.Todo.len H.Todo.cap, .slice H.Log.a H.Log.len H.Log.cap, .int .i64 x.Serial] 69)) #[.slice K.Base.Mem.Heap.Bytes.a K.Base.Mem.Heap.Bytes.len K.Base.Mem.Heap.Bytes.cap, .slice K.Base.Mem.Heap.Class.a K.Base.Mem.Heap.Class.len K.Base.Mem.Heap.Class.cap, .slice K.Base.Mem.Lists.Global.a K.Base.Mem.Lists.Global.len K.Base.Mem.Lists.Global.cap, .slice K.Base.Mem.Lists.Own.a K.Base.Mem.Lists.Own.len K.Base.Mem.Lists.Own.cap, .int .i64 y.Base.Clock.Epoch, .slice K.Base.Clock.Pins.a K.Base.Clock.Pins.len K.Base.Clock.Pins.cap, .slice K.Base.Limbo.a K.Base.Limbo.len K.Base.Limbo.cap, .slice K.Base.Haz.a K.Base.Haz.len K.Base.Haz.cap, .slice K.Cells.a K.Cells.len K.Cells.cap, .slice K.Jobs.a K.Jobs.len K.Jobs.cap, .slice K.Todo.a K.Todo.len K.Todo.cap, .slice K.Log.a K.Log.len K.Log.cap, .int .i64 y.Serial] 69
      simp only [World.size_alloc] at hbx
      exact hbx
    have hB : Below w.heap.size w ((w.alloc (.cells #[.slice H.Base.Mem.Heap.Bytes.a H.Base.Mem.Heap.Bytes.len H.Base.Mem.Heap.Bytes.cap, .slice H.Base.Mem.Heap.Class.a H.Base.Mem.Heap.Class.len H.Base.Mem.Heap.Class.cap, .slice H.Base.Mem.Lists.Global.a H.Base.Mem.Lists.Global.len H.Base.Mem.Lists.Global.cap, .slice H.Base.Mem.Lists.Own.a H.Base.Mem.Lists.Own.len H.Base.Mem.Lists.Own.cap, .int .i64 x.Base.Clock.Epoch, .slice H.Base.Clock.Pins.a H.Base.Clock.Pins.len H.Base.Clock.Pins.cap, .slice H.Base.Limbo.a H.Base.Limbo.len H.Base.Limbo.cap, .slice H.Base.Haz.a H.Base.Haz.len H.Base.Haz.cap, .slice H.Cells.a H.Cells.len H.Cells.cap, .slice H.Jobs.a H.Jobs.len H.Jobs.cap, .slice H.Todo.a H.Todo.len H.Todo.cap, .slice H.Log.a H.Log.len H.Log.cap, .int .i64 x.Serial] 69)).alloc (.cells #[.slice K.Base.Mem.Heap.Bytes.a K.Base.Mem.Heap.Bytes.len K.Base.Mem.Heap.Bytes.cap, .slice K.Base.Mem.Heap.Class.a K.Base.Mem.Heap.Class.len K.Base.Mem.Heap.Class.cap, .slice K.Base.Mem.Lists.Global.a K.Base.Mem.Lists.Global.len K.Base.Mem.Lists.Global.cap, .slice K.Base.Mem.Lists.Own.a K.Base.Mem.Lists.Own.len K.Base.Mem.Lists.Own.cap, .int .i64 y.Base.Clock.Epoch, .slice K.Base.Clock.Pins.a K.Base.Clock.Pins.len K.Base.Clock.Pins.cap, .slice K.Base.Limbo.a K.Base.Limbo.len K.Base.Limbo.cap, .slice K.Base.Haz.a K.Base.Haz.len K.Base.Haz.cap, .slice K.Cells.a K.Cells.len K.Cells.cap, .slice K.Jobs.a K.Jobs.len K.Jobs.cap, .slice K.Todo.a K.Todo.len K.Todo.cap, .slice K.Log.a K.Log.len K.Log.cap, .int .i64 y.Serial] 69)) := by repeat (first | exact Below.refl _ _ | refine Below.alloc ?_ (by simp <;> omega) _ | refine below_grow_of ?_ (by simp <;> omega) _ _ | refine Below.drew ?_ | refine below_drewN ?_ _)
    go_enter Try.func23, Try.ntmps23
    go_wp2_with fail
    generalize hW0 : ((w.alloc (.cells #[.slice H.Base.Mem.Heap.Bytes.a H.Base.Mem.Heap.Bytes.len H.Base.Mem.Heap.Bytes.cap, .slice H.Base.Mem.Heap.Class.a H.Base.Mem.Heap.Class.len H.Base.Mem.Heap.Class.cap, .slice H.Base.Mem.Lists.Global.a H.Base.Mem.Lists.Global.len H.Base.Mem.Lists.Global.cap, .slice H.Base.Mem.Lists.Own.a H.Base.Mem.Lists.Own.len H.Base.Mem.Lists.Own.cap, .int .i64 x.Base.Clock.Epoch, .slice H.Base.Clock.Pins.a H.Base.Clock.Pins.len H.Base.Clock.Pins.cap, .slice H.Base.Limbo.a H.Base.Limbo.len H.Base.Limbo.cap, .slice H.Base.Haz.a H.Base.Haz.len H.Base.Haz.cap, .slice H.Cells.a H.Cells.len H.Cells.cap, .slice H.Jobs.a H.Jobs.len H.Jobs.cap, .slice H.Todo.a H.Todo.len H.Todo.cap, .slice H.Log.a H.Log.len H.Log.cap, .int .i64 x.Serial] 69)).alloc (.cells #[.slice K.Base.Mem.Heap.Bytes.a K.Base.Mem.Heap.Bytes.len K.Base.Mem.Heap.Bytes.cap, .slice K.Base.Mem.Heap.Class.a K.Base.Mem.Heap.Class.len K.Base.Mem.Heap.Class.cap, .slice K.Base.Mem.Lists.Global.a K.Base.Mem.Lists.Global.len K.Base.Mem.Lists.Global.cap, .slice K.Base.Mem.Lists.Own.a K.Base.Mem.Lists.Own.len K.Base.Mem.Lists.Own.cap, .int .i64 y.Base.Clock.Epoch, .slice K.Base.Clock.Pins.a K.Base.Clock.Pins.len K.Base.Clock.Pins.cap, .slice K.Base.Limbo.a K.Base.Limbo.len K.Base.Limbo.cap, .slice K.Base.Haz.a K.Base.Haz.len K.Base.Haz.cap, .slice K.Cells.a K.Cells.len K.Cells.cap, .slice K.Jobs.a K.Jobs.len K.Jobs.cap, .slice K.Todo.a K.Todo.len K.Todo.cap, .slice K.Log.a K.Log.len K.Log.cap, .int .i64 y.Serial] 69)) = w0 at B_a B_b hB ⊢
    clear hW0
    have zz_a := B_a.lt
    have zz_b := B_b.lt
    have q_a_0 := B_a.cell 0 _ rfl
    have q_a_1 := B_a.cell 1 _ rfl
    have q_a_2 := B_a.cell 2 _ rfl
    have q_a_3 := B_a.cell 3 _ rfl
    have q_a_4 := B_a.cell 4 _ rfl
    have q_a_5 := B_a.cell 5 _ rfl
    have q_a_6 := B_a.cell 6 _ rfl
    have q_a_7 := B_a.cell 7 _ rfl
    have q_a_8 := B_a.cell 8 _ rfl
    have q_a_9 := B_a.cell 9 _ rfl
    have q_a_10 := B_a.cell 10 _ rfl
    have q_a_11 := B_a.cell 11 _ rfl
    have q_a_12 := B_a.cell 12 _ rfl
    have fr_a := B_a.fro
    have z_a := B_a.lt
    have q_b_0 := B_b.cell 0 _ rfl
    have q_b_1 := B_b.cell 1 _ rfl
    have q_b_2 := B_b.cell 2 _ rfl
    have q_b_3 := B_b.cell 3 _ rfl
    have q_b_4 := B_b.cell 4 _ rfl
    have q_b_5 := B_b.cell 5 _ rfl
    have q_b_6 := B_b.cell 6 _ rfl
    have q_b_7 := B_b.cell 7 _ rfl
    have q_b_8 := B_b.cell 8 _ rfl
    have q_b_9 := B_b.cell 9 _ rfl
    have q_b_10 := B_b.cell 10 _ rfl
    have q_b_11 := B_b.cell 11 _ rfl
    have q_b_12 := B_b.cell 12 _ rfl
    have fr_b := B_b.fro
    have z_b := B_b.lt
    refine (k0 _ hB).mono ?_
    rintro e w1 ⟨rfl, hb⟩
    replace B_a := B_a.below hb
    replace B_b := B_b.below hb
    replace hB := hB.trans (hb.mono hB.size)
    have sz := hb.size
    clear hb
    replace q_a_0 := B_a.cell 0 _ rfl
    replace q_a_1 := B_a.cell 1 _ rfl
    replace q_a_2 := B_a.cell 2 _ rfl
    replace q_a_3 := B_a.cell 3 _ rfl
    replace q_a_4 := B_a.cell 4 _ rfl
    replace q_a_5 := B_a.cell 5 _ rfl
    replace q_a_6 := B_a.cell 6 _ rfl
    replace q_a_7 := B_a.cell 7 _ rfl
    replace q_a_8 := B_a.cell 8 _ rfl
    replace q_a_9 := B_a.cell 9 _ rfl
    replace q_a_10 := B_a.cell 10 _ rfl
    replace q_a_11 := B_a.cell 11 _ rfl
    replace q_a_12 := B_a.cell 12 _ rfl
    replace fr_a := B_a.fro
    replace z_a := B_a.lt
    replace q_b_0 := B_b.cell 0 _ rfl
    replace q_b_1 := B_b.cell 1 _ rfl
    replace q_b_2 := B_b.cell 2 _ rfl
    replace q_b_3 := B_b.cell 3 _ rfl
    replace q_b_4 := B_b.cell 4 _ rfl
    replace q_b_5 := B_b.cell 5 _ rfl
    replace q_b_6 := B_b.cell 6 _ rfl
    replace q_b_7 := B_b.cell 7 _ rfl
    replace q_b_8 := B_b.cell 8 _ rfl
    replace q_b_9 := B_b.cell 9 _ rfl
    replace q_b_10 := B_b.cell 10 _ rfl
    replace q_b_11 := B_b.cell 11 _ rfl
    replace q_b_12 := B_b.cell 12 _ rfl
    replace fr_b := B_b.fro
    replace z_b := B_b.lt
    clear k0
    go_wp2_with fail
    refine (k1 _ hB).mono ?_
    rintro e w2 ⟨rfl, hb⟩
    replace B_a := B_a.below hb
    replace B_b := B_b.below hb
    replace hB := hB.trans (hb.mono hB.size)
    have sz := hb.size
    clear hb
    replace q_a_0 := B_a.cell 0 _ rfl
    replace q_a_1 := B_a.cell 1 _ rfl
    replace q_a_2 := B_a.cell 2 _ rfl
    replace q_a_3 := B_a.cell 3 _ rfl
    replace q_a_4 := B_a.cell 4 _ rfl
    replace q_a_5 := B_a.cell 5 _ rfl
    replace q_a_6 := B_a.cell 6 _ rfl
    replace q_a_7 := B_a.cell 7 _ rfl
    replace q_a_8 := B_a.cell 8 _ rfl
    replace q_a_9 := B_a.cell 9 _ rfl
    replace q_a_10 := B_a.cell 10 _ rfl
    replace q_a_11 := B_a.cell 11 _ rfl
    replace q_a_12 := B_a.cell 12 _ rfl
    replace fr_a := B_a.fro
    replace z_a := B_a.lt
    replace q_b_0 := B_b.cell 0 _ rfl
    replace q_b_1 := B_b.cell 1 _ rfl
    replace q_b_2 := B_b.cell 2 _ rfl
    replace q_b_3 := B_b.cell 3 _ rfl
    replace q_b_4 := B_b.cell 4 _ rfl
    replace q_b_5 := B_b.cell 5 _ rfl
    replace q_b_6 := B_b.cell 6 _ rfl
    replace q_b_7 := B_b.cell 7 _ rfl
    replace q_b_8 := B_b.cell 8 _ rfl
    replace q_b_9 := B_b.cell 9 _ rfl
    replace q_b_10 := B_b.cell 10 _ rfl
    replace q_b_11 := B_b.cell 11 _ rfl
    replace q_b_12 := B_b.cell 12 _ rfl
    replace fr_b := B_b.fro
    replace z_b := B_b.lt
    clear k1
    go_wp2_with fail
    refine (k2 _ hB).mono ?_
    rintro e w3 ⟨rfl, hb⟩
    replace B_a := B_a.below hb
    replace B_b := B_b.below hb
    replace hB := hB.trans (hb.mono hB.size)
    have sz := hb.size
    clear hb
    replace q_a_0 := B_a.cell 0 _ rfl
    replace q_a_1 := B_a.cell 1 _ rfl
    replace q_a_2 := B_a.cell 2 _ rfl
    replace q_a_3 := B_a.cell 3 _ rfl
    replace q_a_4 := B_a.cell 4 _ rfl
    replace q_a_5 := B_a.cell 5 _ rfl
    replace q_a_6 := B_a.cell 6 _ rfl
    replace q_a_7 := B_a.cell 7 _ rfl
    replace q_a_8 := B_a.cell 8 _ rfl
    replace q_a_9 := B_a.cell 9 _ rfl
    replace q_a_10 := B_a.cell 10 _ rfl
    replace q_a_11 := B_a.cell 11 _ rfl
    replace q_a_12 := B_a.cell 12 _ rfl
    replace fr_a := B_a.fro
    replace z_a := B_a.lt
    replace q_b_0 := B_b.cell 0 _ rfl
    replace q_b_1 := B_b.cell 1 _ rfl
    replace q_b_2 := B_b.cell 2 _ rfl
    replace q_b_3 := B_b.cell 3 _ rfl
    replace q_b_4 := B_b.cell 4 _ rfl
    replace q_b_5 := B_b.cell 5 _ rfl
    replace q_b_6 := B_b.cell 6 _ rfl
    replace q_b_7 := B_b.cell 7 _ rfl
    replace q_b_8 := B_b.cell 8 _ rfl
    replace q_b_9 := B_b.cell 9 _ rfl
    replace q_b_10 := B_b.cell 10 _ rfl
    replace q_b_11 := B_b.cell 11 _ rfl
    replace q_b_12 := B_b.cell 12 _ rfl
    replace fr_b := B_b.fro
    replace z_b := B_b.lt
    clear k2
    go_wp2_with fail
    refine (k3 _ hB).mono ?_
    rintro e w4 ⟨rfl, hb⟩
    replace B_a := B_a.below hb
    replace B_b := B_b.below hb
    replace hB := hB.trans (hb.mono hB.size)
    have sz := hb.size
    clear hb
    replace q_a_0 := B_a.cell 0 _ rfl
    replace q_a_1 := B_a.cell 1 _ rfl
    replace q_a_2 := B_a.cell 2 _ rfl
    replace q_a_3 := B_a.cell 3 _ rfl
    replace q_a_4 := B_a.cell 4 _ rfl
    replace q_a_5 := B_a.cell 5 _ rfl
    replace q_a_6 := B_a.cell 6 _ rfl
    replace q_a_7 := B_a.cell 7 _ rfl
    replace q_a_8 := B_a.cell 8 _ rfl
    replace q_a_9 := B_a.cell 9 _ rfl
    replace q_a_10 := B_a.cell 10 _ rfl
    replace q_a_11 := B_a.cell 11 _ rfl
    replace q_a_12 := B_a.cell 12 _ rfl
    replace fr_a := B_a.fro
    replace z_a := B_a.lt
    replace q_b_0 := B_b.cell 0 _ rfl
    replace q_b_1 := B_b.cell 1 _ rfl
    replace q_b_2 := B_b.cell 2 _ rfl
    replace q_b_3 := B_b.cell 3 _ rfl
    replace q_b_4 := B_b.cell 4 _ rfl
    replace q_b_5 := B_b.cell 5 _ rfl
    replace q_b_6 := B_b.cell 6 _ rfl
    replace q_b_7 := B_b.cell 7 _ rfl
    replace q_b_8 := B_b.cell 8 _ rfl
    replace q_b_9 := B_b.cell 9 _ rfl
    replace q_b_10 := B_b.cell 10 _ rfl
    replace q_b_11 := B_b.cell 11 _ rfl
    replace q_b_12 := B_b.cell 12 _ rfl
    replace fr_b := B_b.fro
    replace z_b := B_b.lt
    clear k3
    go_wp2_with fail
    go_ret
    exact ⟨ret_bool HV.out.symm, hB⟩
  | true =>
  cases c4 with
  | false =>
    replace HV : Hid (sameShelfB x y = false) := HV.out.trans (by simp)
    have B_a : Box ((w.alloc (.cells #[.slice H.Base.Mem.Heap.Bytes.a H.Base.Mem.Heap.Bytes.len H.Base.Mem.Heap.Bytes.cap, .slice H.Base.Mem.Heap.Class.a H.Base.Mem.Heap.Class.len H.Base.Mem.Heap.Class.cap, .slice H.Base.Mem.Lists.Global.a H.Base.Mem.Lists.Global.len H.Base.Mem.Lists.Global.cap, .slice H.Base.Mem.Lists.Own.a H.Base.Mem.Lists.Own.len H.Base.Mem.Lists.Own.cap, .int .i64 x.Base.Clock.Epoch, .slice H.Base.Clock.Pins.a H.Base.Clock.Pins.len H.Base.Clock.Pins.cap, .slice H.Base.Limbo.a H.Base.Limbo.len H.Base.Limbo.cap, .slice H.Base.Haz.a H.Base.Haz.len H.Base.Haz.cap, .slice H.Cells.a H.Cells.len H.Cells.cap, .slice H.Jobs.a H.Jobs.len H.Jobs.cap, .slice H.Todo.a H.Todo.len H.Todo.cap, .slice H.Log.a H.Log.len H.Log.cap, .int .i64 x.Serial] 69)).alloc (.cells #[.slice K.Base.Mem.Heap.Bytes.a K.Base.Mem.Heap.Bytes.len K.Base.Mem.Heap.Bytes.cap, .slice K.Base.Mem.Heap.Class.a K.Base.Mem.Heap.Class.len K.Base.Mem.Heap.Class.cap, .slice K.Base.Mem.Lists.Global.a K.Base.Mem.Lists.Global.len K.Base.Mem.Lists.Global.cap, .slice K.Base.Mem.Lists.Own.a K.Base.Mem.Lists.Own.len K.Base.Mem.Lists.Own.cap, .int .i64 y.Base.Clock.Epoch, .slice K.Base.Clock.Pins.a K.Base.Clock.Pins.len K.Base.Clock.Pins.cap, .slice K.Base.Limbo.a K.Base.Limbo.len K.Base.Limbo.cap, .slice K.Base.Haz.a K.Base.Haz.len K.Base.Haz.cap, .slice K.Cells.a K.Cells.len K.Cells.cap, .slice K.Jobs.a K.Jobs.len K.Jobs.cap, .slice K.Todo.a K.Todo.len K.Todo.cap, .slice K.Log.a K.Log.len K.Log.cap, .int .i64 y.Serial] 69)) (w.heap.size) [.slice H.Base.Mem.Heap.Bytes.a H.Base.Mem.Heap.Bytes.len H.Base.Mem.Heap.Bytes.cap, .slice H.Base.Mem.Heap.Class.a H.Base.Mem.Heap.Class.len H.Base.Mem.Heap.Class.cap, .slice H.Base.Mem.Lists.Global.a H.Base.Mem.Lists.Global.len H.Base.Mem.Lists.Global.cap, .slice H.Base.Mem.Lists.Own.a H.Base.Mem.Lists.Own.len H.Base.Mem.Lists.Own.cap, .int .i64 x.Base.Clock.Epoch, .slice H.Base.Clock.Pins.a H.Base.Clock.Pins.len H.Base.Clock.Pins.cap, .slice H.Base.Limbo.a H.Base.Limbo.len H.Base.Limbo.cap, .slice H.Base.Haz.a H.Base.Haz.len H.Base.Haz.cap, .slice H.Cells.a H.Cells.len H.Cells.cap, .slice H.Jobs.a H.Jobs.len H.Jobs.cap, .slice H.Todo.a H.Todo.len H.Todo.cap, .slice H.Log.a H.Log.len H.Log.cap, .int .i64 x.Serial] := by
      have hbx := Box.new w #[.slice H.Base.Mem.Heap.Bytes.a H.Base.Mem.Heap.Bytes.len H.Base.Mem.Heap.Bytes.cap, .slice H.Base.Mem.Heap.Class.a H.Base.Mem.Heap.Class.len H.Base.Mem.Heap.Class.cap, .slice H.Base.Mem.Lists.Global.a H.Base.Mem.Lists.Global.len H.Base.Mem.Lists.Global.cap, .slice H.Base.Mem.Lists.Own.a H.Base.Mem.Lists.Own.len H.Base.Mem.Lists.Own.cap, .int .i64 x.Base.Clock.Epoch, .slice H.Base.Clock.Pins.a H.Base.Clock.Pins.len H.Base.Clock.Pins.cap, .slice H.Base.Limbo.a H.Base.Limbo.len H.Base.Limbo.cap, .slice H.Base.Haz.a H.Base.Haz.len H.Base.Haz.cap, .slice H.Cells.a H.Cells.len H.Cells.cap, .slice H.Jobs.a H.Jobs.len H.Jobs.cap, .slice H.Todo.a H.Todo.len H.Todo.cap, .slice H.Log.a H.Log.len H.Log.cap, .int .i64 x.Serial] 69
      exact (hbx).alloc _
    have B_b : Box ((w.alloc (.cells #[.slice H.Base.Mem.Heap.Bytes.a H.Base.Mem.Heap.Bytes.len H.Base.Mem.Heap.Bytes.cap, .slice H.Base.Mem.Heap.Class.a H.Base.Mem.Heap.Class.len H.Base.Mem.Heap.Class.cap, .slice H.Base.Mem.Lists.Global.a H.Base.Mem.Lists.Global.len H.Base.Mem.Lists.Global.cap, .slice H.Base.Mem.Lists.Own.a H.Base.Mem.Lists.Own.len H.Base.Mem.Lists.Own.cap, .int .i64 x.Base.Clock.Epoch, .slice H.Base.Clock.Pins.a H.Base.Clock.Pins.len H.Base.Clock.Pins.cap, .slice H.Base.Limbo.a H.Base.Limbo.len H.Base.Limbo.cap, .slice H.Base.Haz.a H.Base.Haz.len H.Base.Haz.cap, .slice H.Cells.a H.Cells.len H.Cells.cap, .slice H.Jobs.a H.Jobs.len H.Jobs.cap, .slice H.Todo.a H.Todo.len H.Todo.cap, .slice H.Log.a H.Log.len H.Log.cap, .int .i64 x.Serial] 69)).alloc (.cells #[.slice K.Base.Mem.Heap.Bytes.a K.Base.Mem.Heap.Bytes.len K.Base.Mem.Heap.Bytes.cap, .slice K.Base.Mem.Heap.Class.a K.Base.Mem.Heap.Class.len K.Base.Mem.Heap.Class.cap, .slice K.Base.Mem.Lists.Global.a K.Base.Mem.Lists.Global.len K.Base.Mem.Lists.Global.cap, .slice K.Base.Mem.Lists.Own.a K.Base.Mem.Lists.Own.len K.Base.Mem.Lists.Own.cap, .int .i64 y.Base.Clock.Epoch, .slice K.Base.Clock.Pins.a K.Base.Clock.Pins.len K.Base.Clock.Pins.cap, .slice K.Base.Limbo.a K.Base.Limbo.len K.Base.Limbo.cap, .slice K.Base.Haz.a K.Base.Haz.len K.Base.Haz.cap, .slice K.Cells.a K.Cells.len K.Cells.cap, .slice K.Jobs.a K.Jobs.len K.Jobs.cap, .slice K.Todo.a K.Todo.len K.Todo.cap, .slice K.Log.a K.Log.len K.Log.cap, .int .i64 y.Serial] 69)) (w.heap.size + 1) [.slice K.Base.Mem.Heap.Bytes.a K.Base.Mem.Heap.Bytes.len K.Base.Mem.Heap.Bytes.cap, .slice K.Base.Mem.Heap.Class.a K.Base.Mem.Heap.Class.len K.Base.Mem.Heap.Class.cap, .slice K.Base.Mem.Lists.Global.a K.Base.Mem.Lists.Global.len K.Base.Mem.Lists.Global.cap, .slice K.Base.Mem.Lists.Own.a K.Base.Mem.Lists.Own.len K.Base.Mem.Lists.Own.cap, .int .i64 y.Base.Clock.Epoch, .slice K.Base.Clock.Pins.a K.Base.Clock.Pins.len K.Base.Clock.Pins.cap, .slice K.Base.Limbo.a K.Base.Limbo.len K.Base.Limbo.cap, .slice K.Base.Haz.a K.Base.Haz.len K.Base.Haz.cap, .slice K.Cells.a K.Cells.len K.Cells.cap, .slice K.Jobs.a K.Jobs.len K.Jobs.cap, .slice K.Todo.a K.Todo.len K.Todo.cap, .slice K.Log.a K.Log.len K.Log.cap, .int .i64 y.Serial] := by
      have hbx := Box.new (w.alloc (.cells #[.slice H.Base.Mem.Heap.Bytes.a H.Base.Mem.Heap.Bytes.len H.Base.Mem.Heap.Bytes.cap, .slice H.Base.Mem.Heap.Class.a H.Base.Mem.Heap.Class.len H.Base.Mem.Heap.Class.cap, .slice H.Base.Mem.Lists.Global.a H.Base.Mem.Lists.Global.len H.Base.Mem.Lists.Global.cap, .slice H.Base.Mem.Lists.Own.a H.Base.Mem.Lists.Own.len H.Base.Mem.Lists.Own.cap, .int .i64 x.Base.Clock.Epoch, .slice H.Base.Clock.Pins.a H.Base.Clock.Pins.len H.Base.Clock.Pins.cap, .slice H.Base.Limbo.a H.Base.Limbo.len H.Base.Limbo.cap, .slice H.Base.Haz.a H.Base.Haz.len H.Base.Haz.cap, .slice H.Cells.a H.Cells.len H.Cells.cap, .slice H.Jobs.a H.Jobs.len H.Jobs.cap, .slice H.Todo.a H.Todo.len H.Todo.cap, .slice H.Log.a H.Log.len H.Log.cap, .int .i64 x.Serial] 69)) #[.slice K.Base.Mem.Heap.Bytes.a K.Base.Mem.Heap.Bytes.len K.Base.Mem.Heap.Bytes.cap, .slice K.Base.Mem.Heap.Class.a K.Base.Mem.Heap.Class.len K.Base.Mem.Heap.Class.cap, .slice K.Base.Mem.Lists.Global.a K.Base.Mem.Lists.Global.len K.Base.Mem.Lists.Global.cap, .slice K.Base.Mem.Lists.Own.a K.Base.Mem.Lists.Own.len K.Base.Mem.Lists.Own.cap, .int .i64 y.Base.Clock.Epoch, .slice K.Base.Clock.Pins.a K.Base.Clock.Pins.len K.Base.Clock.Pins.cap, .slice K.Base.Limbo.a K.Base.Limbo.len K.Base.Limbo.cap, .slice K.Base.Haz.a K.Base.Haz.len K.Base.Haz.cap, .slice K.Cells.a K.Cells.len K.Cells.cap, .slice K.Jobs.a K.Jobs.len K.Jobs.cap, .slice K.Todo.a K.Todo.len K.Todo.cap, .slice K.Log.a K.Log.len K.Log.cap, .int .i64 y.Serial] 69
      simp only [World.size_alloc] at hbx
      exact hbx
    have hB : Below w.heap.size w ((w.alloc (.cells #[.slice H.Base.Mem.Heap.Bytes.a H.Base.Mem.Heap.Bytes.len H.Base.Mem.Heap.Bytes.cap, .slice H.Base.Mem.Heap.Class.a H.Base.Mem.Heap.Class.len H.Base.Mem.Heap.Class.cap, .slice H.Base.Mem.Lists.Global.a H.Base.Mem.Lists.Global.len H.Base.Mem.Lists.Global.cap, .slice H.Base.Mem.Lists.Own.a H.Base.Mem.Lists.Own.len H.Base.Mem.Lists.Own.cap, .int .i64 x.Base.Clock.Epoch, .slice H.Base.Clock.Pins.a H.Base.Clock.Pins.len H.Base.Clock.Pins.cap, .slice H.Base.Limbo.a H.Base.Limbo.len H.Base.Limbo.cap, .slice H.Base.Haz.a H.Base.Haz.len H.Base.Haz.cap, .slice H.Cells.a H.Cells.len H.Cells.cap, .slice H.Jobs.a H.Jobs.len H.Jobs.cap, .slice H.Todo.a H.Todo.len H.Todo.cap, .slice H.Log.a H.Log.len H.Log.cap, .int .i64 x.Serial] 69)).alloc (.cells #[.slice K.Base.Mem.Heap.Bytes.a K.Base.Mem.Heap.Bytes.len K.Base.Mem.Heap.Bytes.cap, .slice K.Base.Mem.Heap.Class.a K.Base.Mem.Heap.Class.len K.Base.Mem.Heap.Class.cap, .slice K.Base.Mem.Lists.Global.a K.Base.Mem.Lists.Global.len K.Base.Mem.Lists.Global.cap, .slice K.Base.Mem.Lists.Own.a K.Base.Mem.Lists.Own.len K.Base.Mem.Lists.Own.cap, .int .i64 y.Base.Clock.Epoch, .slice K.Base.Clock.Pins.a K.Base.Clock.Pins.len K.Base.Clock.Pins.cap, .slice K.Base.Limbo.a K.Base.Limbo.len K.Base.Limbo.cap, .slice K.Base.Haz.a K.Base.Haz.len K.Base.Haz.cap, .slice K.Cells.a K.Cells.len K.Cells.cap, .slice K.Jobs.a K.Jobs.len K.Jobs.cap, .slice K.Todo.a K.Todo.len K.Todo.cap, .slice K.Log.a K.Log.len K.Log.cap, .int .i64 y.Serial] 69)) := by repeat (first | exact Below.refl _ _ | refine Below.alloc ?_ (by simp <;> omega) _ | refine below_grow_of ?_ (by simp <;> omega) _ _ | refine Below.drew ?_ | refine below_drewN ?_ _)
    go_enter Try.func23, Try.ntmps23
    go_wp2_with fail
    generalize hW0 : ((w.alloc (.cells #[.slice H.Base.Mem.Heap.Bytes.a H.Base.Mem.Heap.Bytes.len H.Base.Mem.Heap.Bytes.cap, .slice H.Base.Mem.Heap.Class.a H.Base.Mem.Heap.Class.len H.Base.Mem.Heap.Class.cap, .slice H.Base.Mem.Lists.Global.a H.Base.Mem.Lists.Global.len H.Base.Mem.Lists.Global.cap, .slice H.Base.Mem.Lists.Own.a H.Base.Mem.Lists.Own.len H.Base.Mem.Lists.Own.cap, .int .i64 x.Base.Clock.Epoch, .slice H.Base.Clock.Pins.a H.Base.Clock.Pins.len H.Base.Clock.Pins.cap, .slice H.Base.Limbo.a H.Base.Limbo.len H.Base.Limbo.cap, .slice H.Base.Haz.a H.Base.Haz.len H.Base.Haz.cap, .slice H.Cells.a H.Cells.len H.Cells.cap, .slice H.Jobs.a H.Jobs.len H.Jobs.cap, .slice H.Todo.a H.Todo.len H.Todo.cap, .slice H.Log.a H.Log.len H.Log.cap, .int .i64 x.Serial] 69)).alloc (.cells #[.slice K.Base.Mem.Heap.Bytes.a K.Base.Mem.Heap.Bytes.len K.Base.Mem.Heap.Bytes.cap, .slice K.Base.Mem.Heap.Class.a K.Base.Mem.Heap.Class.len K.Base.Mem.Heap.Class.cap, .slice K.Base.Mem.Lists.Global.a K.Base.Mem.Lists.Global.len K.Base.Mem.Lists.Global.cap, .slice K.Base.Mem.Lists.Own.a K.Base.Mem.Lists.Own.len K.Base.Mem.Lists.Own.cap, .int .i64 y.Base.Clock.Epoch, .slice K.Base.Clock.Pins.a K.Base.Clock.Pins.len K.Base.Clock.Pins.cap, .slice K.Base.Limbo.a K.Base.Limbo.len K.Base.Limbo.cap, .slice K.Base.Haz.a K.Base.Haz.len K.Base.Haz.cap, .slice K.Cells.a K.Cells.len K.Cells.cap, .slice K.Jobs.a K.Jobs.len K.Jobs.cap, .slice K.Todo.a K.Todo.len K.Todo.cap, .slice K.Log.a K.Log.len K.Log.cap, .int .i64 y.Serial] 69)) = w0 at B_a B_b hB ⊢
    clear hW0
    have zz_a := B_a.lt
    have zz_b := B_b.lt
    have q_a_0 := B_a.cell 0 _ rfl
    have q_a_1 := B_a.cell 1 _ rfl
    have q_a_2 := B_a.cell 2 _ rfl
    have q_a_3 := B_a.cell 3 _ rfl
    have q_a_4 := B_a.cell 4 _ rfl
    have q_a_5 := B_a.cell 5 _ rfl
    have q_a_6 := B_a.cell 6 _ rfl
    have q_a_7 := B_a.cell 7 _ rfl
    have q_a_8 := B_a.cell 8 _ rfl
    have q_a_9 := B_a.cell 9 _ rfl
    have q_a_10 := B_a.cell 10 _ rfl
    have q_a_11 := B_a.cell 11 _ rfl
    have q_a_12 := B_a.cell 12 _ rfl
    have fr_a := B_a.fro
    have z_a := B_a.lt
    have q_b_0 := B_b.cell 0 _ rfl
    have q_b_1 := B_b.cell 1 _ rfl
    have q_b_2 := B_b.cell 2 _ rfl
    have q_b_3 := B_b.cell 3 _ rfl
    have q_b_4 := B_b.cell 4 _ rfl
    have q_b_5 := B_b.cell 5 _ rfl
    have q_b_6 := B_b.cell 6 _ rfl
    have q_b_7 := B_b.cell 7 _ rfl
    have q_b_8 := B_b.cell 8 _ rfl
    have q_b_9 := B_b.cell 9 _ rfl
    have q_b_10 := B_b.cell 10 _ rfl
    have q_b_11 := B_b.cell 11 _ rfl
    have q_b_12 := B_b.cell 12 _ rfl
    have fr_b := B_b.fro
    have z_b := B_b.lt
    refine (k0 _ hB).mono ?_
    rintro e w1 ⟨rfl, hb⟩
    replace B_a := B_a.below hb
    replace B_b := B_b.below hb
    replace hB := hB.trans (hb.mono hB.size)
    have sz := hb.size
    clear hb
    replace q_a_0 := B_a.cell 0 _ rfl
    replace q_a_1 := B_a.cell 1 _ rfl
    replace q_a_2 := B_a.cell 2 _ rfl
    replace q_a_3 := B_a.cell 3 _ rfl
    replace q_a_4 := B_a.cell 4 _ rfl
    replace q_a_5 := B_a.cell 5 _ rfl
    replace q_a_6 := B_a.cell 6 _ rfl
    replace q_a_7 := B_a.cell 7 _ rfl
    replace q_a_8 := B_a.cell 8 _ rfl
    replace q_a_9 := B_a.cell 9 _ rfl
    replace q_a_10 := B_a.cell 10 _ rfl
    replace q_a_11 := B_a.cell 11 _ rfl
    replace q_a_12 := B_a.cell 12 _ rfl
    replace fr_a := B_a.fro
    replace z_a := B_a.lt
    replace q_b_0 := B_b.cell 0 _ rfl
    replace q_b_1 := B_b.cell 1 _ rfl
    replace q_b_2 := B_b.cell 2 _ rfl
    replace q_b_3 := B_b.cell 3 _ rfl
    replace q_b_4 := B_b.cell 4 _ rfl
    replace q_b_5 := B_b.cell 5 _ rfl
    replace q_b_6 := B_b.cell 6 _ rfl
    replace q_b_7 := B_b.cell 7 _ rfl
    replace q_b_8 := B_b.cell 8 _ rfl
    replace q_b_9 := B_b.cell 9 _ rfl
    replace q_b_10 := B_b.cell 10 _ rfl
    replace q_b_11 := B_b.cell 11 _ rfl
    replace q_b_12 := B_b.cell 12 _ rfl
    replace fr_b := B_b.fro
    replace z_b := B_b.lt
    clear k0
    go_wp2_with fail
    refine (k1 _ hB).mono ?_
    rintro e w2 ⟨rfl, hb⟩
    replace B_a := B_a.below hb
    replace B_b := B_b.below hb
    replace hB := hB.trans (hb.mono hB.size)
    have sz := hb.size
    clear hb
    replace q_a_0 := B_a.cell 0 _ rfl
    replace q_a_1 := B_a.cell 1 _ rfl
    replace q_a_2 := B_a.cell 2 _ rfl
    replace q_a_3 := B_a.cell 3 _ rfl
    replace q_a_4 := B_a.cell 4 _ rfl
    replace q_a_5 := B_a.cell 5 _ rfl
    replace q_a_6 := B_a.cell 6 _ rfl
    replace q_a_7 := B_a.cell 7 _ rfl
    replace q_a_8 := B_a.cell 8 _ rfl
    replace q_a_9 := B_a.cell 9 _ rfl
    replace q_a_10 := B_a.cell 10 _ rfl
    replace q_a_11 := B_a.cell 11 _ rfl
    replace q_a_12 := B_a.cell 12 _ rfl
    replace fr_a := B_a.fro
    replace z_a := B_a.lt
    replace q_b_0 := B_b.cell 0 _ rfl
    replace q_b_1 := B_b.cell 1 _ rfl
    replace q_b_2 := B_b.cell 2 _ rfl
    replace q_b_3 := B_b.cell 3 _ rfl
    replace q_b_4 := B_b.cell 4 _ rfl
    replace q_b_5 := B_b.cell 5 _ rfl
    replace q_b_6 := B_b.cell 6 _ rfl
    replace q_b_7 := B_b.cell 7 _ rfl
    replace q_b_8 := B_b.cell 8 _ rfl
    replace q_b_9 := B_b.cell 9 _ rfl
    replace q_b_10 := B_b.cell 10 _ rfl
    replace q_b_11 := B_b.cell 11 _ rfl
    replace q_b_12 := B_b.cell 12 _ rfl
    replace fr_b := B_b.fro
    replace z_b := B_b.lt
    clear k1
    go_wp2_with fail
    refine (k2 _ hB).mono ?_
    rintro e w3 ⟨rfl, hb⟩
    replace B_a := B_a.below hb
    replace B_b := B_b.below hb
    replace hB := hB.trans (hb.mono hB.size)
    have sz := hb.size
    clear hb
    replace q_a_0 := B_a.cell 0 _ rfl
    replace q_a_1 := B_a.cell 1 _ rfl
    replace q_a_2 := B_a.cell 2 _ rfl
    replace q_a_3 := B_a.cell 3 _ rfl
    replace q_a_4 := B_a.cell 4 _ rfl
    replace q_a_5 := B_a.cell 5 _ rfl
    replace q_a_6 := B_a.cell 6 _ rfl
    replace q_a_7 := B_a.cell 7 _ rfl
    replace q_a_8 := B_a.cell 8 _ rfl
    replace q_a_9 := B_a.cell 9 _ rfl
    replace q_a_10 := B_a.cell 10 _ rfl
    replace q_a_11 := B_a.cell 11 _ rfl
    replace q_a_12 := B_a.cell 12 _ rfl
    replace fr_a := B_a.fro
    replace z_a := B_a.lt
    replace q_b_0 := B_b.cell 0 _ rfl
    replace q_b_1 := B_b.cell 1 _ rfl
    replace q_b_2 := B_b.cell 2 _ rfl
    replace q_b_3 := B_b.cell 3 _ rfl
    replace q_b_4 := B_b.cell 4 _ rfl
    replace q_b_5 := B_b.cell 5 _ rfl
    replace q_b_6 := B_b.cell 6 _ rfl
    replace q_b_7 := B_b.cell 7 _ rfl
    replace q_b_8 := B_b.cell 8 _ rfl
    replace q_b_9 := B_b.cell 9 _ rfl
    replace q_b_10 := B_b.cell 10 _ rfl
    replace q_b_11 := B_b.cell 11 _ rfl
    replace q_b_12 := B_b.cell 12 _ rfl
    replace fr_b := B_b.fro
    replace z_b := B_b.lt
    clear k2
    go_wp2_with fail
    refine (k3 _ hB).mono ?_
    rintro e w4 ⟨rfl, hb⟩
    replace B_a := B_a.below hb
    replace B_b := B_b.below hb
    replace hB := hB.trans (hb.mono hB.size)
    have sz := hb.size
    clear hb
    replace q_a_0 := B_a.cell 0 _ rfl
    replace q_a_1 := B_a.cell 1 _ rfl
    replace q_a_2 := B_a.cell 2 _ rfl
    replace q_a_3 := B_a.cell 3 _ rfl
    replace q_a_4 := B_a.cell 4 _ rfl
    replace q_a_5 := B_a.cell 5 _ rfl
    replace q_a_6 := B_a.cell 6 _ rfl
    replace q_a_7 := B_a.cell 7 _ rfl
    replace q_a_8 := B_a.cell 8 _ rfl
    replace q_a_9 := B_a.cell 9 _ rfl
    replace q_a_10 := B_a.cell 10 _ rfl
    replace q_a_11 := B_a.cell 11 _ rfl
    replace q_a_12 := B_a.cell 12 _ rfl
    replace fr_a := B_a.fro
    replace z_a := B_a.lt
    replace q_b_0 := B_b.cell 0 _ rfl
    replace q_b_1 := B_b.cell 1 _ rfl
    replace q_b_2 := B_b.cell 2 _ rfl
    replace q_b_3 := B_b.cell 3 _ rfl
    replace q_b_4 := B_b.cell 4 _ rfl
    replace q_b_5 := B_b.cell 5 _ rfl
    replace q_b_6 := B_b.cell 6 _ rfl
    replace q_b_7 := B_b.cell 7 _ rfl
    replace q_b_8 := B_b.cell 8 _ rfl
    replace q_b_9 := B_b.cell 9 _ rfl
    replace q_b_10 := B_b.cell 10 _ rfl
    replace q_b_11 := B_b.cell 11 _ rfl
    replace q_b_12 := B_b.cell 12 _ rfl
    replace fr_b := B_b.fro
    replace z_b := B_b.lt
    clear k3
    go_wp2_with fail
    go_ret
    exact ⟨ret_bool HV.out.symm, hB⟩
  | true =>
  cases c5 with
  | false =>
    replace HV : Hid (sameShelfB x y = false) := HV.out.trans (by simp)
    have B_a : Box ((w.alloc (.cells #[.slice H.Base.Mem.Heap.Bytes.a H.Base.Mem.Heap.Bytes.len H.Base.Mem.Heap.Bytes.cap, .slice H.Base.Mem.Heap.Class.a H.Base.Mem.Heap.Class.len H.Base.Mem.Heap.Class.cap, .slice H.Base.Mem.Lists.Global.a H.Base.Mem.Lists.Global.len H.Base.Mem.Lists.Global.cap, .slice H.Base.Mem.Lists.Own.a H.Base.Mem.Lists.Own.len H.Base.Mem.Lists.Own.cap, .int .i64 x.Base.Clock.Epoch, .slice H.Base.Clock.Pins.a H.Base.Clock.Pins.len H.Base.Clock.Pins.cap, .slice H.Base.Limbo.a H.Base.Limbo.len H.Base.Limbo.cap, .slice H.Base.Haz.a H.Base.Haz.len H.Base.Haz.cap, .slice H.Cells.a H.Cells.len H.Cells.cap, .slice H.Jobs.a H.Jobs.len H.Jobs.cap, .slice H.Todo.a H.Todo.len H.Todo.cap, .slice H.Log.a H.Log.len H.Log.cap, .int .i64 x.Serial] 69)).alloc (.cells #[.slice K.Base.Mem.Heap.Bytes.a K.Base.Mem.Heap.Bytes.len K.Base.Mem.Heap.Bytes.cap, .slice K.Base.Mem.Heap.Class.a K.Base.Mem.Heap.Class.len K.Base.Mem.Heap.Class.cap, .slice K.Base.Mem.Lists.Global.a K.Base.Mem.Lists.Global.len K.Base.Mem.Lists.Global.cap, .slice K.Base.Mem.Lists.Own.a K.Base.Mem.Lists.Own.len K.Base.Mem.Lists.Own.cap, .int .i64 y.Base.Clock.Epoch, .slice K.Base.Clock.Pins.a K.Base.Clock.Pins.len K.Base.Clock.Pins.cap, .slice K.Base.Limbo.a K.Base.Limbo.len K.Base.Limbo.cap, .slice K.Base.Haz.a K.Base.Haz.len K.Base.Haz.cap, .slice K.Cells.a K.Cells.len K.Cells.cap, .slice K.Jobs.a K.Jobs.len K.Jobs.cap, .slice K.Todo.a K.Todo.len K.Todo.cap, .slice K.Log.a K.Log.len K.Log.cap, .int .i64 y.Serial] 69)) (w.heap.size) [.slice H.Base.Mem.Heap.Bytes.a H.Base.Mem.Heap.Bytes.len H.Base.Mem.Heap.Bytes.cap, .slice H.Base.Mem.Heap.Class.a H.Base.Mem.Heap.Class.len H.Base.Mem.Heap.Class.cap, .slice H.Base.Mem.Lists.Global.a H.Base.Mem.Lists.Global.len H.Base.Mem.Lists.Global.cap, .slice H.Base.Mem.Lists.Own.a H.Base.Mem.Lists.Own.len H.Base.Mem.Lists.Own.cap, .int .i64 x.Base.Clock.Epoch, .slice H.Base.Clock.Pins.a H.Base.Clock.Pins.len H.Base.Clock.Pins.cap, .slice H.Base.Limbo.a H.Base.Limbo.len H.Base.Limbo.cap, .slice H.Base.Haz.a H.Base.Haz.len H.Base.Haz.cap, .slice H.Cells.a H.Cells.len H.Cells.cap, .slice H.Jobs.a H.Jobs.len H.Jobs.cap, .slice H.Todo.a H.Todo.len H.Todo.cap, .slice H.Log.a H.Log.len H.Log.cap, .int .i64 x.Serial] := by
      have hbx := Box.new w #[.slice H.Base.Mem.Heap.Bytes.a H.Base.Mem.Heap.Bytes.len H.Base.Mem.Heap.Bytes.cap, .slice H.Base.Mem.Heap.Class.a H.Base.Mem.Heap.Class.len H.Base.Mem.Heap.Class.cap, .slice H.Base.Mem.Lists.Global.a H.Base.Mem.Lists.Global.len H.Base.Mem.Lists.Global.cap, .slice H.Base.Mem.Lists.Own.a H.Base.Mem.Lists.Own.len H.Base.Mem.Lists.Own.cap, .int .i64 x.Base.Clock.Epoch, .slice H.Base.Clock.Pins.a H.Base.Clock.Pins.len H.Base.Clock.Pins.cap, .slice H.Base.Limbo.a H.Base.Limbo.len H.Base.Limbo.cap, .slice H.Base.Haz.a H.Base.Haz.len H.Base.Haz.cap, .slice H.Cells.a H.Cells.len H.Cells.cap, .slice H.Jobs.a H.Jobs.len H.Jobs.cap, .slice H.Todo.a H.Todo.len H.Todo.cap, .slice H.Log.a H.Log.len H.Log.cap, .int .i64 x.Serial] 69
      exact (hbx).alloc _
    have B_b : Box ((w.alloc (.cells #[.slice H.Base.Mem.Heap.Bytes.a H.Base.Mem.Heap.Bytes.len H.Base.Mem.Heap.Bytes.cap, .slice H.Base.Mem.Heap.Class.a H.Base.Mem.Heap.Class.len H.Base.Mem.Heap.Class.cap, .slice H.Base.Mem.Lists.Global.a H.Base.Mem.Lists.Global.len H.Base.Mem.Lists.Global.cap, .slice H.Base.Mem.Lists.Own.a H.Base.Mem.Lists.Own.len H.Base.Mem.Lists.Own.cap, .int .i64 x.Base.Clock.Epoch, .slice H.Base.Clock.Pins.a H.Base.Clock.Pins.len H.Base.Clock.Pins.cap, .slice H.Base.Limbo.a H.Base.Limbo.len H.Base.Limbo.cap, .slice H.Base.Haz.a H.Base.Haz.len H.Base.Haz.cap, .slice H.Cells.a H.Cells.len H.Cells.cap, .slice H.Jobs.a H.Jobs.len H.Jobs.cap, .slice H.Todo.a H.Todo.len H.Todo.cap, .slice H.Log.a H.Log.len H.Log.cap, .int .i64 x.Serial] 69)).alloc (.cells #[.slice K.Base.Mem.Heap.Bytes.a K.Base.Mem.Heap.Bytes.len K.Base.Mem.Heap.Bytes.cap, .slice K.Base.Mem.Heap.Class.a K.Base.Mem.Heap.Class.len K.Base.Mem.Heap.Class.cap, .slice K.Base.Mem.Lists.Global.a K.Base.Mem.Lists.Global.len K.Base.Mem.Lists.Global.cap, .slice K.Base.Mem.Lists.Own.a K.Base.Mem.Lists.Own.len K.Base.Mem.Lists.Own.cap, .int .i64 y.Base.Clock.Epoch, .slice K.Base.Clock.Pins.a K.Base.Clock.Pins.len K.Base.Clock.Pins.cap, .slice K.Base.Limbo.a K.Base.Limbo.len K.Base.Limbo.cap, .slice K.Base.Haz.a K.Base.Haz.len K.Base.Haz.cap, .slice K.Cells.a K.Cells.len K.Cells.cap, .slice K.Jobs.a K.Jobs.len K.Jobs.cap, .slice K.Todo.a K.Todo.len K.Todo.cap, .slice K.Log.a K.Log.len K.Log.cap, .int .i64 y.Serial] 69)) (w.heap.size + 1) [.slice K.Base.Mem.Heap.Bytes.a K.Base.Mem.Heap.Bytes.len K.Base.Mem.Heap.Bytes.cap, .slice K.Base.Mem.Heap.Class.a K.Base.Mem.Heap.Class.len K.Base.Mem.Heap.Class.cap, .slice K.Base.Mem.Lists.Global.a K.Base.Mem.Lists.Global.len K.Base.Mem.Lists.Global.cap, .slice K.Base.Mem.Lists.Own.a K.Base.Mem.Lists.Own.len K.Base.Mem.Lists.Own.cap, .int .i64 y.Base.Clock.Epoch, .slice K.Base.Clock.Pins.a K.Base.Clock.Pins.len K.Base.Clock.Pins.cap, .slice K.Base.Limbo.a K.Base.Limbo.len K.Base.Limbo.cap, .slice K.Base.Haz.a K.Base.Haz.len K.Base.Haz.cap, .slice K.Cells.a K.Cells.len K.Cells.cap, .slice K.Jobs.a K.Jobs.len K.Jobs.cap, .slice K.Todo.a K.Todo.len K.Todo.cap, .slice K.Log.a K.Log.len K.Log.cap, .int .i64 y.Serial] := by
      have hbx := Box.new (w.alloc (.cells #[.slice H.Base.Mem.Heap.Bytes.a H.Base.Mem.Heap.Bytes.len H.Base.Mem.Heap.Bytes.cap, .slice H.Base.Mem.Heap.Class.a H.Base.Mem.Heap.Class.len H.Base.Mem.Heap.Class.cap, .slice H.Base.Mem.Lists.Global.a H.Base.Mem.Lists.Global.len H.Base.Mem.Lists.Global.cap, .slice H.Base.Mem.Lists.Own.a H.Base.Mem.Lists.Own.len H.Base.Mem.Lists.Own.cap, .int .i64 x.Base.Clock.Epoch, .slice H.Base.Clock.Pins.a H.Base.Clock.Pins.len H.Base.Clock.Pins.cap, .slice H.Base.Limbo.a H.Base.Limbo.len H.Base.Limbo.cap, .slice H.Base.Haz.a H.Base.Haz.len H.Base.Haz.cap, .slice H.Cells.a H.Cells.len H.Cells.cap, .slice H.Jobs.a H.Jobs.len H.Jobs.cap, .slice H.Todo.a H.Todo.len H.Todo.cap, .slice H.Log.a H.Log.len H.Log.cap, .int .i64 x.Serial] 69)) #[.slice K.Base.Mem.Heap.Bytes.a K.Base.Mem.Heap.Bytes.len K.Base.Mem.Heap.Bytes.cap, .slice K.Base.Mem.Heap.Class.a K.Base.Mem.Heap.Class.len K.Base.Mem.Heap.Class.cap, .slice K.Base.Mem.Lists.Global.a K.Base.Mem.Lists.Global.len K.Base.Mem.Lists.Global.cap, .slice K.Base.Mem.Lists.Own.a K.Base.Mem.Lists.Own.len K.Base.Mem.Lists.Own.cap, .int .i64 y.Base.Clock.Epoch, .slice K.Base.Clock.Pins.a K.Base.Clock.Pins.len K.Base.Clock.Pins.cap, .slice K.Base.Limbo.a K.Base.Limbo.len K.Base.Limbo.cap, .slice K.Base.Haz.a K.Base.Haz.len K.Base.Haz.cap, .slice K.Cells.a K.Cells.len K.Cells.cap, .slice K.Jobs.a K.Jobs.len K.Jobs.cap, .slice K.Todo.a K.Todo.len K.Todo.cap, .slice K.Log.a K.Log.len K.Log.cap, .int .i64 y.Serial] 69
      simp only [World.size_alloc] at hbx
      exact hbx
    have hB : Below w.heap.size w ((w.alloc (.cells #[.slice H.Base.Mem.Heap.Bytes.a H.Base.Mem.Heap.Bytes.len H.Base.Mem.Heap.Bytes.cap, .slice H.Base.Mem.Heap.Class.a H.Base.Mem.Heap.Class.len H.Base.Mem.Heap.Class.cap, .slice H.Base.Mem.Lists.Global.a H.Base.Mem.Lists.Global.len H.Base.Mem.Lists.Global.cap, .slice H.Base.Mem.Lists.Own.a H.Base.Mem.Lists.Own.len H.Base.Mem.Lists.Own.cap, .int .i64 x.Base.Clock.Epoch, .slice H.Base.Clock.Pins.a H.Base.Clock.Pins.len H.Base.Clock.Pins.cap, .slice H.Base.Limbo.a H.Base.Limbo.len H.Base.Limbo.cap, .slice H.Base.Haz.a H.Base.Haz.len H.Base.Haz.cap, .slice H.Cells.a H.Cells.len H.Cells.cap, .slice H.Jobs.a H.Jobs.len H.Jobs.cap, .slice H.Todo.a H.Todo.len H.Todo.cap, .slice H.Log.a H.Log.len H.Log.cap, .int .i64 x.Serial] 69)).alloc (.cells #[.slice K.Base.Mem.Heap.Bytes.a K.Base.Mem.Heap.Bytes.len K.Base.Mem.Heap.Bytes.cap, .slice K.Base.Mem.Heap.Class.a K.Base.Mem.Heap.Class.len K.Base.Mem.Heap.Class.cap, .slice K.Base.Mem.Lists.Global.a K.Base.Mem.Lists.Global.len K.Base.Mem.Lists.Global.cap, .slice K.Base.Mem.Lists.Own.a K.Base.Mem.Lists.Own.len K.Base.Mem.Lists.Own.cap, .int .i64 y.Base.Clock.Epoch, .slice K.Base.Clock.Pins.a K.Base.Clock.Pins.len K.Base.Clock.Pins.cap, .slice K.Base.Limbo.a K.Base.Limbo.len K.Base.Limbo.cap, .slice K.Base.Haz.a K.Base.Haz.len K.Base.Haz.cap, .slice K.Cells.a K.Cells.len K.Cells.cap, .slice K.Jobs.a K.Jobs.len K.Jobs.cap, .slice K.Todo.a K.Todo.len K.Todo.cap, .slice K.Log.a K.Log.len K.Log.cap, .int .i64 y.Serial] 69)) := by repeat (first | exact Below.refl _ _ | refine Below.alloc ?_ (by simp <;> omega) _ | refine below_grow_of ?_ (by simp <;> omega) _ _ | refine Below.drew ?_ | refine below_drewN ?_ _)
    go_enter Try.func23, Try.ntmps23
    go_wp2_with fail
    generalize hW0 : ((w.alloc (.cells #[.slice H.Base.Mem.Heap.Bytes.a H.Base.Mem.Heap.Bytes.len H.Base.Mem.Heap.Bytes.cap, .slice H.Base.Mem.Heap.Class.a H.Base.Mem.Heap.Class.len H.Base.Mem.Heap.Class.cap, .slice H.Base.Mem.Lists.Global.a H.Base.Mem.Lists.Global.len H.Base.Mem.Lists.Global.cap, .slice H.Base.Mem.Lists.Own.a H.Base.Mem.Lists.Own.len H.Base.Mem.Lists.Own.cap, .int .i64 x.Base.Clock.Epoch, .slice H.Base.Clock.Pins.a H.Base.Clock.Pins.len H.Base.Clock.Pins.cap, .slice H.Base.Limbo.a H.Base.Limbo.len H.Base.Limbo.cap, .slice H.Base.Haz.a H.Base.Haz.len H.Base.Haz.cap, .slice H.Cells.a H.Cells.len H.Cells.cap, .slice H.Jobs.a H.Jobs.len H.Jobs.cap, .slice H.Todo.a H.Todo.len H.Todo.cap, .slice H.Log.a H.Log.len H.Log.cap, .int .i64 x.Serial] 69)).alloc (.cells #[.slice K.Base.Mem.Heap.Bytes.a K.Base.Mem.Heap.Bytes.len K.Base.Mem.Heap.Bytes.cap, .slice K.Base.Mem.Heap.Class.a K.Base.Mem.Heap.Class.len K.Base.Mem.Heap.Class.cap, .slice K.Base.Mem.Lists.Global.a K.Base.Mem.Lists.Global.len K.Base.Mem.Lists.Global.cap, .slice K.Base.Mem.Lists.Own.a K.Base.Mem.Lists.Own.len K.Base.Mem.Lists.Own.cap, .int .i64 y.Base.Clock.Epoch, .slice K.Base.Clock.Pins.a K.Base.Clock.Pins.len K.Base.Clock.Pins.cap, .slice K.Base.Limbo.a K.Base.Limbo.len K.Base.Limbo.cap, .slice K.Base.Haz.a K.Base.Haz.len K.Base.Haz.cap, .slice K.Cells.a K.Cells.len K.Cells.cap, .slice K.Jobs.a K.Jobs.len K.Jobs.cap, .slice K.Todo.a K.Todo.len K.Todo.cap, .slice K.Log.a K.Log.len K.Log.cap, .int .i64 y.Serial] 69)) = w0 at B_a B_b hB ⊢
    clear hW0
    have zz_a := B_a.lt
    have zz_b := B_b.lt
    have q_a_0 := B_a.cell 0 _ rfl
    have q_a_1 := B_a.cell 1 _ rfl
    have q_a_2 := B_a.cell 2 _ rfl
    have q_a_3 := B_a.cell 3 _ rfl
    have q_a_4 := B_a.cell 4 _ rfl
    have q_a_5 := B_a.cell 5 _ rfl
    have q_a_6 := B_a.cell 6 _ rfl
    have q_a_7 := B_a.cell 7 _ rfl
    have q_a_8 := B_a.cell 8 _ rfl
    have q_a_9 := B_a.cell 9 _ rfl
    have q_a_10 := B_a.cell 10 _ rfl
    have q_a_11 := B_a.cell 11 _ rfl
    have q_a_12 := B_a.cell 12 _ rfl
    have fr_a := B_a.fro
    have z_a := B_a.lt
    have q_b_0 := B_b.cell 0 _ rfl
    have q_b_1 := B_b.cell 1 _ rfl
    have q_b_2 := B_b.cell 2 _ rfl
    have q_b_3 := B_b.cell 3 _ rfl
    have q_b_4 := B_b.cell 4 _ rfl
    have q_b_5 := B_b.cell 5 _ rfl
    have q_b_6 := B_b.cell 6 _ rfl
    have q_b_7 := B_b.cell 7 _ rfl
    have q_b_8 := B_b.cell 8 _ rfl
    have q_b_9 := B_b.cell 9 _ rfl
    have q_b_10 := B_b.cell 10 _ rfl
    have q_b_11 := B_b.cell 11 _ rfl
    have q_b_12 := B_b.cell 12 _ rfl
    have fr_b := B_b.fro
    have z_b := B_b.lt
    refine (k0 _ hB).mono ?_
    rintro e w1 ⟨rfl, hb⟩
    replace B_a := B_a.below hb
    replace B_b := B_b.below hb
    replace hB := hB.trans (hb.mono hB.size)
    have sz := hb.size
    clear hb
    replace q_a_0 := B_a.cell 0 _ rfl
    replace q_a_1 := B_a.cell 1 _ rfl
    replace q_a_2 := B_a.cell 2 _ rfl
    replace q_a_3 := B_a.cell 3 _ rfl
    replace q_a_4 := B_a.cell 4 _ rfl
    replace q_a_5 := B_a.cell 5 _ rfl
    replace q_a_6 := B_a.cell 6 _ rfl
    replace q_a_7 := B_a.cell 7 _ rfl
    replace q_a_8 := B_a.cell 8 _ rfl
    replace q_a_9 := B_a.cell 9 _ rfl
    replace q_a_10 := B_a.cell 10 _ rfl
    replace q_a_11 := B_a.cell 11 _ rfl
    replace q_a_12 := B_a.cell 12 _ rfl
    replace fr_a := B_a.fro
    replace z_a := B_a.lt
    replace q_b_0 := B_b.cell 0 _ rfl
    replace q_b_1 := B_b.cell 1 _ rfl
    replace q_b_2 := B_b.cell 2 _ rfl
    replace q_b_3 := B_b.cell 3 _ rfl
    replace q_b_4 := B_b.cell 4 _ rfl
    replace q_b_5 := B_b.cell 5 _ rfl
    replace q_b_6 := B_b.cell 6 _ rfl
    replace q_b_7 := B_b.cell 7 _ rfl
    replace q_b_8 := B_b.cell 8 _ rfl
    replace q_b_9 := B_b.cell 9 _ rfl
    replace q_b_10 := B_b.cell 10 _ rfl
    replace q_b_11 := B_b.cell 11 _ rfl
    replace q_b_12 := B_b.cell 12 _ rfl
    replace fr_b := B_b.fro
    replace z_b := B_b.lt
    clear k0
    go_wp2_with fail
    refine (k1 _ hB).mono ?_
    rintro e w2 ⟨rfl, hb⟩
    replace B_a := B_a.below hb
    replace B_b := B_b.below hb
    replace hB := hB.trans (hb.mono hB.size)
    have sz := hb.size
    clear hb
    replace q_a_0 := B_a.cell 0 _ rfl
    replace q_a_1 := B_a.cell 1 _ rfl
    replace q_a_2 := B_a.cell 2 _ rfl
    replace q_a_3 := B_a.cell 3 _ rfl
    replace q_a_4 := B_a.cell 4 _ rfl
    replace q_a_5 := B_a.cell 5 _ rfl
    replace q_a_6 := B_a.cell 6 _ rfl
    replace q_a_7 := B_a.cell 7 _ rfl
    replace q_a_8 := B_a.cell 8 _ rfl
    replace q_a_9 := B_a.cell 9 _ rfl
    replace q_a_10 := B_a.cell 10 _ rfl
    replace q_a_11 := B_a.cell 11 _ rfl
    replace q_a_12 := B_a.cell 12 _ rfl
    replace fr_a := B_a.fro
    replace z_a := B_a.lt
    replace q_b_0 := B_b.cell 0 _ rfl
    replace q_b_1 := B_b.cell 1 _ rfl
    replace q_b_2 := B_b.cell 2 _ rfl
    replace q_b_3 := B_b.cell 3 _ rfl
    replace q_b_4 := B_b.cell 4 _ rfl
    replace q_b_5 := B_b.cell 5 _ rfl
    replace q_b_6 := B_b.cell 6 _ rfl
    replace q_b_7 := B_b.cell 7 _ rfl
    replace q_b_8 := B_b.cell 8 _ rfl
    replace q_b_9 := B_b.cell 9 _ rfl
    replace q_b_10 := B_b.cell 10 _ rfl
    replace q_b_11 := B_b.cell 11 _ rfl
    replace q_b_12 := B_b.cell 12 _ rfl
    replace fr_b := B_b.fro
    replace z_b := B_b.lt
    clear k1
    go_wp2_with fail
    refine (k2 _ hB).mono ?_
    rintro e w3 ⟨rfl, hb⟩
    replace B_a := B_a.below hb
    replace B_b := B_b.below hb
    replace hB := hB.trans (hb.mono hB.size)
    have sz := hb.size
    clear hb
    replace q_a_0 := B_a.cell 0 _ rfl
    replace q_a_1 := B_a.cell 1 _ rfl
    replace q_a_2 := B_a.cell 2 _ rfl
    replace q_a_3 := B_a.cell 3 _ rfl
    replace q_a_4 := B_a.cell 4 _ rfl
    replace q_a_5 := B_a.cell 5 _ rfl
    replace q_a_6 := B_a.cell 6 _ rfl
    replace q_a_7 := B_a.cell 7 _ rfl
    replace q_a_8 := B_a.cell 8 _ rfl
    replace q_a_9 := B_a.cell 9 _ rfl
    replace q_a_10 := B_a.cell 10 _ rfl
    replace q_a_11 := B_a.cell 11 _ rfl
    replace q_a_12 := B_a.cell 12 _ rfl
    replace fr_a := B_a.fro
    replace z_a := B_a.lt
    replace q_b_0 := B_b.cell 0 _ rfl
    replace q_b_1 := B_b.cell 1 _ rfl
    replace q_b_2 := B_b.cell 2 _ rfl
    replace q_b_3 := B_b.cell 3 _ rfl
    replace q_b_4 := B_b.cell 4 _ rfl
    replace q_b_5 := B_b.cell 5 _ rfl
    replace q_b_6 := B_b.cell 6 _ rfl
    replace q_b_7 := B_b.cell 7 _ rfl
    replace q_b_8 := B_b.cell 8 _ rfl
    replace q_b_9 := B_b.cell 9 _ rfl
    replace q_b_10 := B_b.cell 10 _ rfl
    replace q_b_11 := B_b.cell 11 _ rfl
    replace q_b_12 := B_b.cell 12 _ rfl
    replace fr_b := B_b.fro
    replace z_b := B_b.lt
    clear k2
    go_wp2_with fail
    refine (k3 _ hB).mono ?_
    rintro e w4 ⟨rfl, hb⟩
    replace B_a := B_a.below hb
    replace B_b := B_b.below hb
    replace hB := hB.trans (hb.mono hB.size)
    have sz := hb.size
    clear hb
    replace q_a_0 := B_a.cell 0 _ rfl
    replace q_a_1 := B_a.cell 1 _ rfl
    replace q_a_2 := B_a.cell 2 _ rfl
    replace q_a_3 := B_a.cell 3 _ rfl
    replace q_a_4 := B_a.cell 4 _ rfl
    replace q_a_5 := B_a.cell 5 _ rfl
    replace q_a_6 := B_a.cell 6 _ rfl
    replace q_a_7 := B_a.cell 7 _ rfl
    replace q_a_8 := B_a.cell 8 _ rfl
    replace q_a_9 := B_a.cell 9 _ rfl
    replace q_a_10 := B_a.cell 10 _ rfl
    replace q_a_11 := B_a.cell 11 _ rfl
    replace q_a_12 := B_a.cell 12 _ rfl
    replace fr_a := B_a.fro
    replace z_a := B_a.lt
    replace q_b_0 := B_b.cell 0 _ rfl
    replace q_b_1 := B_b.cell 1 _ rfl
    replace q_b_2 := B_b.cell 2 _ rfl
    replace q_b_3 := B_b.cell 3 _ rfl
    replace q_b_4 := B_b.cell 4 _ rfl
    replace q_b_5 := B_b.cell 5 _ rfl
    replace q_b_6 := B_b.cell 6 _ rfl
    replace q_b_7 := B_b.cell 7 _ rfl
    replace q_b_8 := B_b.cell 8 _ rfl
    replace q_b_9 := B_b.cell 9 _ rfl
    replace q_b_10 := B_b.cell 10 _ rfl
    replace q_b_11 := B_b.cell 11 _ rfl
    replace q_b_12 := B_b.cell 12 _ rfl
    replace fr_b := B_b.fro
    replace z_b := B_b.lt
    clear k3
    go_wp2_with fail
    refine (k5 _ hB).mono ?_
    rintro e w5 ⟨rfl, hb⟩
    replace B_a := B_a.below hb
    replace B_b := B_b.below hb
    replace hB := hB.trans (hb.mono hB.size)
    have sz := hb.size
    clear hb
    replace q_a_0 := B_a.cell 0 _ rfl
    replace q_a_1 := B_a.cell 1 _ rfl
    replace q_a_2 := B_a.cell 2 _ rfl
    replace q_a_3 := B_a.cell 3 _ rfl
    replace q_a_4 := B_a.cell 4 _ rfl
    replace q_a_5 := B_a.cell 5 _ rfl
    replace q_a_6 := B_a.cell 6 _ rfl
    replace q_a_7 := B_a.cell 7 _ rfl
    replace q_a_8 := B_a.cell 8 _ rfl
    replace q_a_9 := B_a.cell 9 _ rfl
    replace q_a_10 := B_a.cell 10 _ rfl
    replace q_a_11 := B_a.cell 11 _ rfl
    replace q_a_12 := B_a.cell 12 _ rfl
    replace fr_a := B_a.fro
    replace z_a := B_a.lt
    replace q_b_0 := B_b.cell 0 _ rfl
    replace q_b_1 := B_b.cell 1 _ rfl
    replace q_b_2 := B_b.cell 2 _ rfl
    replace q_b_3 := B_b.cell 3 _ rfl
    replace q_b_4 := B_b.cell 4 _ rfl
    replace q_b_5 := B_b.cell 5 _ rfl
    replace q_b_6 := B_b.cell 6 _ rfl
    replace q_b_7 := B_b.cell 7 _ rfl
    replace q_b_8 := B_b.cell 8 _ rfl
    replace q_b_9 := B_b.cell 9 _ rfl
    replace q_b_10 := B_b.cell 10 _ rfl
    replace q_b_11 := B_b.cell 11 _ rfl
    replace q_b_12 := B_b.cell 12 _ rfl
    replace fr_b := B_b.fro
    replace z_b := B_b.lt
    clear k5
    go_wp2_with fail
    go_ret
    exact ⟨ret_bool HV.out.symm, hB⟩
  | true =>
  replace HV : Hid (sameShelfB x y = true) := HV.out.trans (by simp)
  have B_a : Box ((w.alloc (.cells #[.slice H.Base.Mem.Heap.Bytes.a H.Base.Mem.Heap.Bytes.len H.Base.Mem.Heap.Bytes.cap, .slice H.Base.Mem.Heap.Class.a H.Base.Mem.Heap.Class.len H.Base.Mem.Heap.Class.cap, .slice H.Base.Mem.Lists.Global.a H.Base.Mem.Lists.Global.len H.Base.Mem.Lists.Global.cap, .slice H.Base.Mem.Lists.Own.a H.Base.Mem.Lists.Own.len H.Base.Mem.Lists.Own.cap, .int .i64 x.Base.Clock.Epoch, .slice H.Base.Clock.Pins.a H.Base.Clock.Pins.len H.Base.Clock.Pins.cap, .slice H.Base.Limbo.a H.Base.Limbo.len H.Base.Limbo.cap, .slice H.Base.Haz.a H.Base.Haz.len H.Base.Haz.cap, .slice H.Cells.a H.Cells.len H.Cells.cap, .slice H.Jobs.a H.Jobs.len H.Jobs.cap, .slice H.Todo.a H.Todo.len H.Todo.cap, .slice H.Log.a H.Log.len H.Log.cap, .int .i64 x.Serial] 69)).alloc (.cells #[.slice K.Base.Mem.Heap.Bytes.a K.Base.Mem.Heap.Bytes.len K.Base.Mem.Heap.Bytes.cap, .slice K.Base.Mem.Heap.Class.a K.Base.Mem.Heap.Class.len K.Base.Mem.Heap.Class.cap, .slice K.Base.Mem.Lists.Global.a K.Base.Mem.Lists.Global.len K.Base.Mem.Lists.Global.cap, .slice K.Base.Mem.Lists.Own.a K.Base.Mem.Lists.Own.len K.Base.Mem.Lists.Own.cap, .int .i64 y.Base.Clock.Epoch, .slice K.Base.Clock.Pins.a K.Base.Clock.Pins.len K.Base.Clock.Pins.cap, .slice K.Base.Limbo.a K.Base.Limbo.len K.Base.Limbo.cap, .slice K.Base.Haz.a K.Base.Haz.len K.Base.Haz.cap, .slice K.Cells.a K.Cells.len K.Cells.cap, .slice K.Jobs.a K.Jobs.len K.Jobs.cap, .slice K.Todo.a K.Todo.len K.Todo.cap, .slice K.Log.a K.Log.len K.Log.cap, .int .i64 y.Serial] 69)) (w.heap.size) [.slice H.Base.Mem.Heap.Bytes.a H.Base.Mem.Heap.Bytes.len H.Base.Mem.Heap.Bytes.cap, .slice H.Base.Mem.Heap.Class.a H.Base.Mem.Heap.Class.len H.Base.Mem.Heap.Class.cap, .slice H.Base.Mem.Lists.Global.a H.Base.Mem.Lists.Global.len H.Base.Mem.Lists.Global.cap, .slice H.Base.Mem.Lists.Own.a H.Base.Mem.Lists.Own.len H.Base.Mem.Lists.Own.cap, .int .i64 x.Base.Clock.Epoch, .slice H.Base.Clock.Pins.a H.Base.Clock.Pins.len H.Base.Clock.Pins.cap, .slice H.Base.Limbo.a H.Base.Limbo.len H.Base.Limbo.cap, .slice H.Base.Haz.a H.Base.Haz.len H.Base.Haz.cap, .slice H.Cells.a H.Cells.len H.Cells.cap, .slice H.Jobs.a H.Jobs.len H.Jobs.cap, .slice H.Todo.a H.Todo.len H.Todo.cap, .slice H.Log.a H.Log.len H.Log.cap, .int .i64 x.Serial] := by
    have hbx := Box.new w #[.slice H.Base.Mem.Heap.Bytes.a H.Base.Mem.Heap.Bytes.len H.Base.Mem.Heap.Bytes.cap, .slice H.Base.Mem.Heap.Class.a H.Base.Mem.Heap.Class.len H.Base.Mem.Heap.Class.cap, .slice H.Base.Mem.Lists.Global.a H.Base.Mem.Lists.Global.len H.Base.Mem.Lists.Global.cap, .slice H.Base.Mem.Lists.Own.a H.Base.Mem.Lists.Own.len H.Base.Mem.Lists.Own.cap, .int .i64 x.Base.Clock.Epoch, .slice H.Base.Clock.Pins.a H.Base.Clock.Pins.len H.Base.Clock.Pins.cap, .slice H.Base.Limbo.a H.Base.Limbo.len H.Base.Limbo.cap, .slice H.Base.Haz.a H.Base.Haz.len H.Base.Haz.cap, .slice H.Cells.a H.Cells.len H.Cells.cap, .slice H.Jobs.a H.Jobs.len H.Jobs.cap, .slice H.Todo.a H.Todo.len H.Todo.cap, .slice H.Log.a H.Log.len H.Log.cap, .int .i64 x.Serial] 69
    exact (hbx).alloc _
  have B_b : Box ((w.alloc (.cells #[.slice H.Base.Mem.Heap.Bytes.a H.Base.Mem.Heap.Bytes.len H.Base.Mem.Heap.Bytes.cap, .slice H.Base.Mem.Heap.Class.a H.Base.Mem.Heap.Class.len H.Base.Mem.Heap.Class.cap, .slice H.Base.Mem.Lists.Global.a H.Base.Mem.Lists.Global.len H.Base.Mem.Lists.Global.cap, .slice H.Base.Mem.Lists.Own.a H.Base.Mem.Lists.Own.len H.Base.Mem.Lists.Own.cap, .int .i64 x.Base.Clock.Epoch, .slice H.Base.Clock.Pins.a H.Base.Clock.Pins.len H.Base.Clock.Pins.cap, .slice H.Base.Limbo.a H.Base.Limbo.len H.Base.Limbo.cap, .slice H.Base.Haz.a H.Base.Haz.len H.Base.Haz.cap, .slice H.Cells.a H.Cells.len H.Cells.cap, .slice H.Jobs.a H.Jobs.len H.Jobs.cap, .slice H.Todo.a H.Todo.len H.Todo.cap, .slice H.Log.a H.Log.len H.Log.cap, .int .i64 x.Serial] 69)).alloc (.cells #[.slice K.Base.Mem.Heap.Bytes.a K.Base.Mem.Heap.Bytes.len K.Base.Mem.Heap.Bytes.cap, .slice K.Base.Mem.Heap.Class.a K.Base.Mem.Heap.Class.len K.Base.Mem.Heap.Class.cap, .slice K.Base.Mem.Lists.Global.a K.Base.Mem.Lists.Global.len K.Base.Mem.Lists.Global.cap, .slice K.Base.Mem.Lists.Own.a K.Base.Mem.Lists.Own.len K.Base.Mem.Lists.Own.cap, .int .i64 y.Base.Clock.Epoch, .slice K.Base.Clock.Pins.a K.Base.Clock.Pins.len K.Base.Clock.Pins.cap, .slice K.Base.Limbo.a K.Base.Limbo.len K.Base.Limbo.cap, .slice K.Base.Haz.a K.Base.Haz.len K.Base.Haz.cap, .slice K.Cells.a K.Cells.len K.Cells.cap, .slice K.Jobs.a K.Jobs.len K.Jobs.cap, .slice K.Todo.a K.Todo.len K.Todo.cap, .slice K.Log.a K.Log.len K.Log.cap, .int .i64 y.Serial] 69)) (w.heap.size + 1) [.slice K.Base.Mem.Heap.Bytes.a K.Base.Mem.Heap.Bytes.len K.Base.Mem.Heap.Bytes.cap, .slice K.Base.Mem.Heap.Class.a K.Base.Mem.Heap.Class.len K.Base.Mem.Heap.Class.cap, .slice K.Base.Mem.Lists.Global.a K.Base.Mem.Lists.Global.len K.Base.Mem.Lists.Global.cap, .slice K.Base.Mem.Lists.Own.a K.Base.Mem.Lists.Own.len K.Base.Mem.Lists.Own.cap, .int .i64 y.Base.Clock.Epoch, .slice K.Base.Clock.Pins.a K.Base.Clock.Pins.len K.Base.Clock.Pins.cap, .slice K.Base.Limbo.a K.Base.Limbo.len K.Base.Limbo.cap, .slice K.Base.Haz.a K.Base.Haz.len K.Base.Haz.cap, .slice K.Cells.a K.Cells.len K.Cells.cap, .slice K.Jobs.a K.Jobs.len K.Jobs.cap, .slice K.Todo.a K.Todo.len K.Todo.cap, .slice K.Log.a K.Log.len K.Log.cap, .int .i64 y.Serial] := by
    have hbx := Box.new (w.alloc (.cells #[.slice H.Base.Mem.Heap.Bytes.a H.Base.Mem.Heap.Bytes.len H.Base.Mem.Heap.Bytes.cap, .slice H.Base.Mem.Heap.Class.a H.Base.Mem.Heap.Class.len H.Base.Mem.Heap.Class.cap, .slice H.Base.Mem.Lists.Global.a H.Base.Mem.Lists.Global.len H.Base.Mem.Lists.Global.cap, .slice H.Base.Mem.Lists.Own.a H.Base.Mem.Lists.Own.len H.Base.Mem.Lists.Own.cap, .int .i64 x.Base.Clock.Epoch, .slice H.Base.Clock.Pins.a H.Base.Clock.Pins.len H.Base.Clock.Pins.cap, .slice H.Base.Limbo.a H.Base.Limbo.len H.Base.Limbo.cap, .slice H.Base.Haz.a H.Base.Haz.len H.Base.Haz.cap, .slice H.Cells.a H.Cells.len H.Cells.cap, .slice H.Jobs.a H.Jobs.len H.Jobs.cap, .slice H.Todo.a H.Todo.len H.Todo.cap, .slice H.Log.a H.Log.len H.Log.cap, .int .i64 x.Serial] 69)) #[.slice K.Base.Mem.Heap.Bytes.a K.Base.Mem.Heap.Bytes.len K.Base.Mem.Heap.Bytes.cap, .slice K.Base.Mem.Heap.Class.a K.Base.Mem.Heap.Class.len K.Base.Mem.Heap.Class.cap, .slice K.Base.Mem.Lists.Global.a K.Base.Mem.Lists.Global.len K.Base.Mem.Lists.Global.cap, .slice K.Base.Mem.Lists.Own.a K.Base.Mem.Lists.Own.len K.Base.Mem.Lists.Own.cap, .int .i64 y.Base.Clock.Epoch, .slice K.Base.Clock.Pins.a K.Base.Clock.Pins.len K.Base.Clock.Pins.cap, .slice K.Base.Limbo.a K.Base.Limbo.len K.Base.Limbo.cap, .slice K.Base.Haz.a K.Base.Haz.len K.Base.Haz.cap, .slice K.Cells.a K.Cells.len K.Cells.cap, .slice K.Jobs.a K.Jobs.len K.Jobs.cap, .slice K.Todo.a K.Todo.len K.Todo.cap, .slice K.Log.a K.Log.len K.Log.cap, .int .i64 y.Serial] 69
    simp only [World.size_alloc] at hbx
    exact hbx
  have hB : Below w.heap.size w ((w.alloc (.cells #[.slice H.Base.Mem.Heap.Bytes.a H.Base.Mem.Heap.Bytes.len H.Base.Mem.Heap.Bytes.cap, .slice H.Base.Mem.Heap.Class.a H.Base.Mem.Heap.Class.len H.Base.Mem.Heap.Class.cap, .slice H.Base.Mem.Lists.Global.a H.Base.Mem.Lists.Global.len H.Base.Mem.Lists.Global.cap, .slice H.Base.Mem.Lists.Own.a H.Base.Mem.Lists.Own.len H.Base.Mem.Lists.Own.cap, .int .i64 x.Base.Clock.Epoch, .slice H.Base.Clock.Pins.a H.Base.Clock.Pins.len H.Base.Clock.Pins.cap, .slice H.Base.Limbo.a H.Base.Limbo.len H.Base.Limbo.cap, .slice H.Base.Haz.a H.Base.Haz.len H.Base.Haz.cap, .slice H.Cells.a H.Cells.len H.Cells.cap, .slice H.Jobs.a H.Jobs.len H.Jobs.cap, .slice H.Todo.a H.Todo.len H.Todo.cap, .slice H.Log.a H.Log.len H.Log.cap, .int .i64 x.Serial] 69)).alloc (.cells #[.slice K.Base.Mem.Heap.Bytes.a K.Base.Mem.Heap.Bytes.len K.Base.Mem.Heap.Bytes.cap, .slice K.Base.Mem.Heap.Class.a K.Base.Mem.Heap.Class.len K.Base.Mem.Heap.Class.cap, .slice K.Base.Mem.Lists.Global.a K.Base.Mem.Lists.Global.len K.Base.Mem.Lists.Global.cap, .slice K.Base.Mem.Lists.Own.a K.Base.Mem.Lists.Own.len K.Base.Mem.Lists.Own.cap, .int .i64 y.Base.Clock.Epoch, .slice K.Base.Clock.Pins.a K.Base.Clock.Pins.len K.Base.Clock.Pins.cap, .slice K.Base.Limbo.a K.Base.Limbo.len K.Base.Limbo.cap, .slice K.Base.Haz.a K.Base.Haz.len K.Base.Haz.cap, .slice K.Cells.a K.Cells.len K.Cells.cap, .slice K.Jobs.a K.Jobs.len K.Jobs.cap, .slice K.Todo.a K.Todo.len K.Todo.cap, .slice K.Log.a K.Log.len K.Log.cap, .int .i64 y.Serial] 69)) := by repeat (first | exact Below.refl _ _ | refine Below.alloc ?_ (by simp <;> omega) _ | refine below_grow_of ?_ (by simp <;> omega) _ _ | refine Below.drew ?_ | refine below_drewN ?_ _)
  go_enter Try.func23, Try.ntmps23
  go_wp2_with fail
  generalize hW0 : ((w.alloc (.cells #[.slice H.Base.Mem.Heap.Bytes.a H.Base.Mem.Heap.Bytes.len H.Base.Mem.Heap.Bytes.cap, .slice H.Base.Mem.Heap.Class.a H.Base.Mem.Heap.Class.len H.Base.Mem.Heap.Class.cap, .slice H.Base.Mem.Lists.Global.a H.Base.Mem.Lists.Global.len H.Base.Mem.Lists.Global.cap, .slice H.Base.Mem.Lists.Own.a H.Base.Mem.Lists.Own.len H.Base.Mem.Lists.Own.cap, .int .i64 x.Base.Clock.Epoch, .slice H.Base.Clock.Pins.a H.Base.Clock.Pins.len H.Base.Clock.Pins.cap, .slice H.Base.Limbo.a H.Base.Limbo.len H.Base.Limbo.cap, .slice H.Base.Haz.a H.Base.Haz.len H.Base.Haz.cap, .slice H.Cells.a H.Cells.len H.Cells.cap, .slice H.Jobs.a H.Jobs.len H.Jobs.cap, .slice H.Todo.a H.Todo.len H.Todo.cap, .slice H.Log.a H.Log.len H.Log.cap, .int .i64 x.Serial] 69)).alloc (.cells #[.slice K.Base.Mem.Heap.Bytes.a K.Base.Mem.Heap.Bytes.len K.Base.Mem.Heap.Bytes.cap, .slice K.Base.Mem.Heap.Class.a K.Base.Mem.Heap.Class.len K.Base.Mem.Heap.Class.cap, .slice K.Base.Mem.Lists.Global.a K.Base.Mem.Lists.Global.len K.Base.Mem.Lists.Global.cap, .slice K.Base.Mem.Lists.Own.a K.Base.Mem.Lists.Own.len K.Base.Mem.Lists.Own.cap, .int .i64 y.Base.Clock.Epoch, .slice K.Base.Clock.Pins.a K.Base.Clock.Pins.len K.Base.Clock.Pins.cap, .slice K.Base.Limbo.a K.Base.Limbo.len K.Base.Limbo.cap, .slice K.Base.Haz.a K.Base.Haz.len K.Base.Haz.cap, .slice K.Cells.a K.Cells.len K.Cells.cap, .slice K.Jobs.a K.Jobs.len K.Jobs.cap, .slice K.Todo.a K.Todo.len K.Todo.cap, .slice K.Log.a K.Log.len K.Log.cap, .int .i64 y.Serial] 69)) = w0 at B_a B_b hB ⊢
  clear hW0
  have zz_a := B_a.lt
  have zz_b := B_b.lt
  have q_a_0 := B_a.cell 0 _ rfl
  have q_a_1 := B_a.cell 1 _ rfl
  have q_a_2 := B_a.cell 2 _ rfl
  have q_a_3 := B_a.cell 3 _ rfl
  have q_a_4 := B_a.cell 4 _ rfl
  have q_a_5 := B_a.cell 5 _ rfl
  have q_a_6 := B_a.cell 6 _ rfl
  have q_a_7 := B_a.cell 7 _ rfl
  have q_a_8 := B_a.cell 8 _ rfl
  have q_a_9 := B_a.cell 9 _ rfl
  have q_a_10 := B_a.cell 10 _ rfl
  have q_a_11 := B_a.cell 11 _ rfl
  have q_a_12 := B_a.cell 12 _ rfl
  have fr_a := B_a.fro
  have z_a := B_a.lt
  have q_b_0 := B_b.cell 0 _ rfl
  have q_b_1 := B_b.cell 1 _ rfl
  have q_b_2 := B_b.cell 2 _ rfl
  have q_b_3 := B_b.cell 3 _ rfl
  have q_b_4 := B_b.cell 4 _ rfl
  have q_b_5 := B_b.cell 5 _ rfl
  have q_b_6 := B_b.cell 6 _ rfl
  have q_b_7 := B_b.cell 7 _ rfl
  have q_b_8 := B_b.cell 8 _ rfl
  have q_b_9 := B_b.cell 9 _ rfl
  have q_b_10 := B_b.cell 10 _ rfl
  have q_b_11 := B_b.cell 11 _ rfl
  have q_b_12 := B_b.cell 12 _ rfl
  have fr_b := B_b.fro
  have z_b := B_b.lt
  refine (k0 _ hB).mono ?_
  rintro e w1 ⟨rfl, hb⟩
  replace B_a := B_a.below hb
  replace B_b := B_b.below hb
  replace hB := hB.trans (hb.mono hB.size)
  have sz := hb.size
  clear hb
  replace q_a_0 := B_a.cell 0 _ rfl
  replace q_a_1 := B_a.cell 1 _ rfl
  replace q_a_2 := B_a.cell 2 _ rfl
  replace q_a_3 := B_a.cell 3 _ rfl
  replace q_a_4 := B_a.cell 4 _ rfl
  replace q_a_5 := B_a.cell 5 _ rfl
  replace q_a_6 := B_a.cell 6 _ rfl
  replace q_a_7 := B_a.cell 7 _ rfl
  replace q_a_8 := B_a.cell 8 _ rfl
  replace q_a_9 := B_a.cell 9 _ rfl
  replace q_a_10 := B_a.cell 10 _ rfl
  replace q_a_11 := B_a.cell 11 _ rfl
  replace q_a_12 := B_a.cell 12 _ rfl
  replace fr_a := B_a.fro
  replace z_a := B_a.lt
  replace q_b_0 := B_b.cell 0 _ rfl
  replace q_b_1 := B_b.cell 1 _ rfl
  replace q_b_2 := B_b.cell 2 _ rfl
  replace q_b_3 := B_b.cell 3 _ rfl
  replace q_b_4 := B_b.cell 4 _ rfl
  replace q_b_5 := B_b.cell 5 _ rfl
  replace q_b_6 := B_b.cell 6 _ rfl
  replace q_b_7 := B_b.cell 7 _ rfl
  replace q_b_8 := B_b.cell 8 _ rfl
  replace q_b_9 := B_b.cell 9 _ rfl
  replace q_b_10 := B_b.cell 10 _ rfl
  replace q_b_11 := B_b.cell 11 _ rfl
  replace q_b_12 := B_b.cell 12 _ rfl
  replace fr_b := B_b.fro
  replace z_b := B_b.lt
  clear k0
  go_wp2_with fail
  refine (k1 _ hB).mono ?_
  rintro e w2 ⟨rfl, hb⟩
  replace B_a := B_a.below hb
  replace B_b := B_b.below hb
  replace hB := hB.trans (hb.mono hB.size)
  have sz := hb.size
  clear hb
  replace q_a_0 := B_a.cell 0 _ rfl
  replace q_a_1 := B_a.cell 1 _ rfl
  replace q_a_2 := B_a.cell 2 _ rfl
  replace q_a_3 := B_a.cell 3 _ rfl
  replace q_a_4 := B_a.cell 4 _ rfl
  replace q_a_5 := B_a.cell 5 _ rfl
  replace q_a_6 := B_a.cell 6 _ rfl
  replace q_a_7 := B_a.cell 7 _ rfl
  replace q_a_8 := B_a.cell 8 _ rfl
  replace q_a_9 := B_a.cell 9 _ rfl
  replace q_a_10 := B_a.cell 10 _ rfl
  replace q_a_11 := B_a.cell 11 _ rfl
  replace q_a_12 := B_a.cell 12 _ rfl
  replace fr_a := B_a.fro
  replace z_a := B_a.lt
  replace q_b_0 := B_b.cell 0 _ rfl
  replace q_b_1 := B_b.cell 1 _ rfl
  replace q_b_2 := B_b.cell 2 _ rfl
  replace q_b_3 := B_b.cell 3 _ rfl
  replace q_b_4 := B_b.cell 4 _ rfl
  replace q_b_5 := B_b.cell 5 _ rfl
  replace q_b_6 := B_b.cell 6 _ rfl
  replace q_b_7 := B_b.cell 7 _ rfl
  replace q_b_8 := B_b.cell 8 _ rfl
  replace q_b_9 := B_b.cell 9 _ rfl
  replace q_b_10 := B_b.cell 10 _ rfl
  replace q_b_11 := B_b.cell 11 _ rfl
  replace q_b_12 := B_b.cell 12 _ rfl
  replace fr_b := B_b.fro
  replace z_b := B_b.lt
  clear k1
  go_wp2_with fail
  refine (k2 _ hB).mono ?_
  rintro e w3 ⟨rfl, hb⟩
  replace B_a := B_a.below hb
  replace B_b := B_b.below hb
  replace hB := hB.trans (hb.mono hB.size)
  have sz := hb.size
  clear hb
  replace q_a_0 := B_a.cell 0 _ rfl
  replace q_a_1 := B_a.cell 1 _ rfl
  replace q_a_2 := B_a.cell 2 _ rfl
  replace q_a_3 := B_a.cell 3 _ rfl
  replace q_a_4 := B_a.cell 4 _ rfl
  replace q_a_5 := B_a.cell 5 _ rfl
  replace q_a_6 := B_a.cell 6 _ rfl
  replace q_a_7 := B_a.cell 7 _ rfl
  replace q_a_8 := B_a.cell 8 _ rfl
  replace q_a_9 := B_a.cell 9 _ rfl
  replace q_a_10 := B_a.cell 10 _ rfl
  replace q_a_11 := B_a.cell 11 _ rfl
  replace q_a_12 := B_a.cell 12 _ rfl
  replace fr_a := B_a.fro
  replace z_a := B_a.lt
  replace q_b_0 := B_b.cell 0 _ rfl
  replace q_b_1 := B_b.cell 1 _ rfl
  replace q_b_2 := B_b.cell 2 _ rfl
  replace q_b_3 := B_b.cell 3 _ rfl
  replace q_b_4 := B_b.cell 4 _ rfl
  replace q_b_5 := B_b.cell 5 _ rfl
  replace q_b_6 := B_b.cell 6 _ rfl
  replace q_b_7 := B_b.cell 7 _ rfl
  replace q_b_8 := B_b.cell 8 _ rfl
  replace q_b_9 := B_b.cell 9 _ rfl
  replace q_b_10 := B_b.cell 10 _ rfl
  replace q_b_11 := B_b.cell 11 _ rfl
  replace q_b_12 := B_b.cell 12 _ rfl
  replace fr_b := B_b.fro
  replace z_b := B_b.lt
  clear k2
  go_wp2_with fail
  refine (k3 _ hB).mono ?_
  rintro e w4 ⟨rfl, hb⟩
  replace B_a := B_a.below hb
  replace B_b := B_b.below hb
  replace hB := hB.trans (hb.mono hB.size)
  have sz := hb.size
  clear hb
  replace q_a_0 := B_a.cell 0 _ rfl
  replace q_a_1 := B_a.cell 1 _ rfl
  replace q_a_2 := B_a.cell 2 _ rfl
  replace q_a_3 := B_a.cell 3 _ rfl
  replace q_a_4 := B_a.cell 4 _ rfl
  replace q_a_5 := B_a.cell 5 _ rfl
  replace q_a_6 := B_a.cell 6 _ rfl
  replace q_a_7 := B_a.cell 7 _ rfl
  replace q_a_8 := B_a.cell 8 _ rfl
  replace q_a_9 := B_a.cell 9 _ rfl
  replace q_a_10 := B_a.cell 10 _ rfl
  replace q_a_11 := B_a.cell 11 _ rfl
  replace q_a_12 := B_a.cell 12 _ rfl
  replace fr_a := B_a.fro
  replace z_a := B_a.lt
  replace q_b_0 := B_b.cell 0 _ rfl
  replace q_b_1 := B_b.cell 1 _ rfl
  replace q_b_2 := B_b.cell 2 _ rfl
  replace q_b_3 := B_b.cell 3 _ rfl
  replace q_b_4 := B_b.cell 4 _ rfl
  replace q_b_5 := B_b.cell 5 _ rfl
  replace q_b_6 := B_b.cell 6 _ rfl
  replace q_b_7 := B_b.cell 7 _ rfl
  replace q_b_8 := B_b.cell 8 _ rfl
  replace q_b_9 := B_b.cell 9 _ rfl
  replace q_b_10 := B_b.cell 10 _ rfl
  replace q_b_11 := B_b.cell 11 _ rfl
  replace q_b_12 := B_b.cell 12 _ rfl
  replace fr_b := B_b.fro
  replace z_b := B_b.lt
  clear k3
  go_wp2_with fail
  refine (k5 _ hB).mono ?_
  rintro e w5 ⟨rfl, hb⟩
  replace B_a := B_a.below hb
  replace B_b := B_b.below hb
  replace hB := hB.trans (hb.mono hB.size)
  have sz := hb.size
  clear hb
  replace q_a_0 := B_a.cell 0 _ rfl
  replace q_a_1 := B_a.cell 1 _ rfl
  replace q_a_2 := B_a.cell 2 _ rfl
  replace q_a_3 := B_a.cell 3 _ rfl
  replace q_a_4 := B_a.cell 4 _ rfl
  replace q_a_5 := B_a.cell 5 _ rfl
  replace q_a_6 := B_a.cell 6 _ rfl
  replace q_a_7 := B_a.cell 7 _ rfl
  replace q_a_8 := B_a.cell 8 _ rfl
  replace q_a_9 := B_a.cell 9 _ rfl
  replace q_a_10 := B_a.cell 10 _ rfl
  replace q_a_11 := B_a.cell 11 _ rfl
  replace q_a_12 := B_a.cell 12 _ rfl
  replace fr_a := B_a.fro
  replace z_a := B_a.lt
  replace q_b_0 := B_b.cell 0 _ rfl
  replace q_b_1 := B_b.cell 1 _ rfl
  replace q_b_2 := B_b.cell 2 _ rfl
  replace q_b_3 := B_b.cell 3 _ rfl
  replace q_b_4 := B_b.cell 4 _ rfl
  replace q_b_5 := B_b.cell 5 _ rfl
  replace q_b_6 := B_b.cell 6 _ rfl
  replace q_b_7 := B_b.cell 7 _ rfl
  replace q_b_8 := B_b.cell 8 _ rfl
  replace q_b_9 := B_b.cell 9 _ rfl
  replace q_b_10 := B_b.cell 10 _ rfl
  replace q_b_11 := B_b.cell 11 _ rfl
  replace q_b_12 := B_b.cell 12 _ rfl
  replace fr_b := B_b.fro
  replace z_b := B_b.lt
  clear k5
  go_wp2_with fail
  go_ret
  exact ⟨ret_bool HV.out.symm, hB⟩
end Go.Proofs.Ytdepckmjgpkjmaa
