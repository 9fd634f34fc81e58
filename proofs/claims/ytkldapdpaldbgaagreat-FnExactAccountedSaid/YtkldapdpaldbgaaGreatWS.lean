/-
  Shelves: compared, made, measured, marked.
-/
import Derived.Test.YtkldapdpaldbgaaGreatT
import Derived.Test.YtkldapdpaldbgaaGreatL
import Derived.Deep.QuietTactic
import Derived.BigQuiet
import Derived.Deep.LoopGhost
import Derived.Deep.RegionHeld3
import Derived.Test.YtkldapdpaldbgaaGreatN
import Derived.Test.YtkldapdpaldbgaaGreatA
import Derived.WalkSpells
import Derived.Laws.Cover3
import Derived.Test.YtkldapdpaldbgaaGreatUA
import Derived.Test.YtkldapdpaldbgaaGreatWB
namespace Go.Proofs.YtkldapdpaldbgaaGreat
open Go.RowKit

set_option maxRecDepth 100000 in
set_option maxHeartbeats 4000000 in
theorem toShelf_ct (w : World) (H : HShelf) (x : Shelf) (h : RdShelf w w.heap.size H x) (hs : sizeShelf x ≤ 1048576) :
    Calls Tryz.prog 22 #[.agg #[.slice H.Base.Mem.Heap.Bytes.a H.Base.Mem.Heap.Bytes.len H.Base.Mem.Heap.Bytes.cap, .slice H.Base.Mem.Heap.Class.a H.Base.Mem.Heap.Class.len H.Base.Mem.Heap.Class.cap, .slice H.Base.Mem.Lists.Global.a H.Base.Mem.Lists.Global.len H.Base.Mem.Lists.Global.cap, .slice H.Base.Mem.Lists.Own.a H.Base.Mem.Lists.Own.len H.Base.Mem.Lists.Own.cap, .int .i64 x.Base.Clock.Epoch, .slice H.Base.Clock.Pins.a H.Base.Clock.Pins.len H.Base.Clock.Pins.cap, .slice H.Base.Limbo.a H.Base.Limbo.len H.Base.Limbo.cap, .slice H.Base.Haz.a H.Base.Haz.len H.Base.Haz.cap, .slice H.Cells.a H.Cells.len H.Cells.cap, .slice H.Jobs.a H.Jobs.len H.Jobs.cap, .slice H.Todo.a H.Todo.len H.Todo.cap, .slice H.Log.a H.Log.len H.Log.cap, .int .i64 x.Serial]] w fun e w' => ∃ H' : HShelf, e = .returned (H'.val x) ∧ OwShelf w' H' x ∧ (∀ g ∈ H'.foot, w.heap.size ≤ g) ∧ Below w.heap.size w w' := by
  have hs0 : sizeBase x.Base ≤ 1048576 := by unfold sizeShelf at hs; omega
  have hs1 : x.Cells.length ≤ 1048576 := by unfold sizeShelf at hs; omega
  have hs2 : x.Jobs.length ≤ 1048576 := by unfold sizeShelf at hs; omega
  have hs3 : szLL x.Todo ≤ 1048576 := by unfold sizeShelf at hs; omega
  have hs4 : x.Log.length ≤ 1048576 := by unfold sizeShelf at hs; omega
  clear hs
  have ba0 : Box (((w.alloc (.cells #[.slice H.Base.Mem.Heap.Bytes.a H.Base.Mem.Heap.Bytes.len H.Base.Mem.Heap.Bytes.cap, .slice H.Base.Mem.Heap.Class.a H.Base.Mem.Heap.Class.len H.Base.Mem.Heap.Class.cap, .slice H.Base.Mem.Lists.Global.a H.Base.Mem.Lists.Global.len H.Base.Mem.Lists.Global.cap, .slice H.Base.Mem.Lists.Own.a H.Base.Mem.Lists.Own.len H.Base.Mem.Lists.Own.cap, .int .i64 x.Base.Clock.Epoch, .slice H.Base.Clock.Pins.a H.Base.Clock.Pins.len H.Base.Clock.Pins.cap, .slice H.Base.Limbo.a H.Base.Limbo.len H.Base.Limbo.cap, .slice H.Base.Haz.a H.Base.Haz.len H.Base.Haz.cap, .slice H.Cells.a H.Cells.len H.Cells.cap, .slice H.Jobs.a H.Jobs.len H.Jobs.cap, .slice H.Todo.a H.Todo.len H.Todo.cap, .slice H.Log.a H.Log.len H.Log.cap, .int .i64 x.Serial] 62)).alloc (.cells #[.slice none 0 0, .slice none 0 0, .slice none 0 0, .slice none 0 0, .int .i64 0, .slice none 0 0, .slice none 0 0, .slice none 0 0, .slice none 0 0, .slice none 0 0, .slice none 0 0, .slice none 0 0, .int .i64 0] 69)).alloc (.cells #[.slice none 0 0, .slice none 0 0, .slice none 0 0, .slice none 0 0, .int .i64 0, .slice none 0 0, .slice none 0 0, .slice none 0 0, .slice none 0 0, .slice none 0 0, .slice none 0 0, .slice none 0 0, .int .i64 0] 69)) w.heap.size [.slice H.Base.Mem.Heap.Bytes.a H.Base.Mem.Heap.Bytes.len H.Base.Mem.Heap.Bytes.cap, .slice H.Base.Mem.Heap.Class.a H.Base.Mem.Heap.Class.len H.Base.Mem.Heap.Class.cap, .slice H.Base.Mem.Lists.Global.a H.Base.Mem.Lists.Global.len H.Base.Mem.Lists.Global.cap, .slice H.Base.Mem.Lists.Own.a H.Base.Mem.Lists.Own.len H.Base.Mem.Lists.Own.cap, .int .i64 x.Base.Clock.Epoch, .slice H.Base.Clock.Pins.a H.Base.Clock.Pins.len H.Base.Clock.Pins.cap, .slice H.Base.Limbo.a H.Base.Limbo.len H.Base.Limbo.cap, .slice H.Base.Haz.a H.Base.Haz.len H.Base.Haz.cap, .slice H.Cells.a H.Cells.len H.Cells.cap, .slice H.Jobs.a H.Jobs.len H.Jobs.cap, .slice H.Todo.a H.Todo.len H.Todo.cap, .slice H.Log.a H.Log.len H.Log.cap, .int .i64 x.Serial] := ((Box.new w #[.slice H.Base.Mem.Heap.Bytes.a H.Base.Mem.Heap.Bytes.len H.Base.Mem.Heap.Bytes.cap, .slice H.Base.Mem.Heap.Class.a H.Base.Mem.Heap.Class.len H.Base.Mem.Heap.Class.cap, .slice H.Base.Mem.Lists.Global.a H.Base.Mem.Lists.Global.len H.Base.Mem.Lists.Global.cap, .slice H.Base.Mem.Lists.Own.a H.Base.Mem.Lists.Own.len H.Base.Mem.Lists.Own.cap, .int .i64 x.Base.Clock.Epoch, .slice H.Base.Clock.Pins.a H.Base.Clock.Pins.len H.Base.Clock.Pins.cap, .slice H.Base.Limbo.a H.Base.Limbo.len H.Base.Limbo.cap, .slice H.Base.Haz.a H.Base.Haz.len H.Base.Haz.cap, .slice H.Cells.a H.Cells.len H.Cells.cap, .slice H.Jobs.a H.Jobs.len H.Jobs.cap, .slice H.Todo.a H.Todo.len H.Todo.cap, .slice H.Log.a H.Log.len H.Log.cap, .int .i64 x.Serial] 62).alloc _).alloc _
  have br0 : Box (((w.alloc (.cells #[.slice H.Base.Mem.Heap.Bytes.a H.Base.Mem.Heap.Bytes.len H.Base.Mem.Heap.Bytes.cap, .slice H.Base.Mem.Heap.Class.a H.Base.Mem.Heap.Class.len H.Base.Mem.Heap.Class.cap, .slice H.Base.Mem.Lists.Global.a H.Base.Mem.Lists.Global.len H.Base.Mem.Lists.Global.cap, .slice H.Base.Mem.Lists.Own.a H.Base.Mem.Lists.Own.len H.Base.Mem.Lists.Own.cap, .int .i64 x.Base.Clock.Epoch, .slice H.Base.Clock.Pins.a H.Base.Clock.Pins.len H.Base.Clock.Pins.cap, .slice H.Base.Limbo.a H.Base.Limbo.len H.Base.Limbo.cap, .slice H.Base.Haz.a H.Base.Haz.len H.Base.Haz.cap, .slice H.Cells.a H.Cells.len H.Cells.cap, .slice H.Jobs.a H.Jobs.len H.Jobs.cap, .slice H.Todo.a H.Todo.len H.Todo.cap, .slice H.Log.a H.Log.len H.Log.cap, .int .i64 x.Serial] 62)).alloc (.cells #[.slice none 0 0, .slice none 0 0, .slice none 0 0, .slice none 0 0, .int .i64 0, .slice none 0 0, .slice none 0 0, .slice none 0 0, .slice none 0 0, .slice none 0 0, .slice none 0 0, .slice none 0 0, .int .i64 0] 69)).alloc (.cells #[.slice none 0 0, .slice none 0 0, .slice none 0 0, .slice none 0 0, .int .i64 0, .slice none 0 0, .slice none 0 0, .slice none 0 0, .slice none 0 0, .slice none 0 0, .slice none 0 0, .slice none 0 0, .int .i64 0] 69)) (w.heap.size + 1) [.slice none 0 0, .slice none 0 0, .slice none 0 0, .slice none 0 0, .int .i64 0, .slice none 0 0, .slice none 0 0, .slice none 0 0, .slice none 0 0, .slice none 0 0, .slice none 0 0, .slice none 0 0, .int .i64 0] := by have a := (Box.new (w.alloc (.cells #[.slice H.Base.Mem.Heap.Bytes.a H.Base.Mem.Heap.Bytes.len H.Base.Mem.Heap.Bytes.cap, .slice H.Base.Mem.Heap.Class.a H.Base.Mem.Heap.Class.len H.Base.Mem.Heap.Class.cap, .slice H.Base.Mem.Lists.Global.a H.Base.Mem.Lists.Global.len H.Base.Mem.Lists.Global.cap, .slice H.Base.Mem.Lists.Own.a H.Base.Mem.Lists.Own.len H.Base.Mem.Lists.Own.cap, .int .i64 x.Base.Clock.Epoch, .slice H.Base.Clock.Pins.a H.Base.Clock.Pins.len H.Base.Clock.Pins.cap, .slice H.Base.Limbo.a H.Base.Limbo.len H.Base.Limbo.cap, .slice H.Base.Haz.a H.Base.Haz.len H.Base.Haz.cap, .slice H.Cells.a H.Cells.len H.Cells.cap, .slice H.Jobs.a H.Jobs.len H.Jobs.cap, .slice H.Todo.a H.Todo.len H.Todo.cap, .slice H.Log.a H.Log.len H.Log.cap, .int .i64 x.Serial] 62)) #[.slice none 0 0, .slice none 0 0, .slice none 0 0, .slice none 0 0, .int .i64 0, .slice none 0 0, .slice none 0 0, .slice none 0 0, .slice none 0 0, .slice none 0 0, .slice none 0 0, .slice none 0 0, .int .i64 0] 69).alloc (.cells #[.slice none 0 0, .slice none 0 0, .slice none 0 0, .slice none 0 0, .int .i64 0, .slice none 0 0, .slice none 0 0, .slice none 0 0, .slice none 0 0, .slice none 0 0, .slice none 0 0, .slice none 0 0, .int .i64 0] 69); simpa using a
  have bo0 : Box (((w.alloc (.cells #[.slice H.Base.Mem.Heap.Bytes.a H.Base.Mem.Heap.Bytes.len H.Base.Mem.Heap.Bytes.cap, .slice H.Base.Mem.Heap.Class.a H.Base.Mem.Heap.Class.len H.Base.Mem.Heap.Class.cap, .slice H.Base.Mem.Lists.Global.a H.Base.Mem.Lists.Global.len H.Base.Mem.Lists.Global.cap, .slice H.Base.Mem.Lists.Own.a H.Base.Mem.Lists.Own.len H.Base.Mem.Lists.Own.cap, .int .i64 x.Base.Clock.Epoch, .slice H.Base.Clock.Pins.a H.Base.Clock.Pins.len H.Base.Clock.Pins.cap, .slice H.Base.Limbo.a H.Base.Limbo.len H.Base.Limbo.cap, .slice H.Base.Haz.a H.Base.Haz.len H.Base.Haz.cap, .slice H.Cells.a H.Cells.len H.Cells.cap, .slice H.Jobs.a H.Jobs.len H.Jobs.cap, .slice H.Todo.a H.Todo.len H.Todo.cap, .slice H.Log.a H.Log.len H.Log.cap, .int .i64 x.Serial] 62)).alloc (.cells #[.slice none 0 0, .slice none 0 0, .slice none 0 0, .slice none 0 0, .int .i64 0, .slice none 0 0, .slice none 0 0, .slice none 0 0, .slice none 0 0, .slice none 0 0, .slice none 0 0, .slice none 0 0, .int .i64 0] 69)).alloc (.cells #[.slice none 0 0, .slice none 0 0, .slice none 0 0, .slice none 0 0, .int .i64 0, .slice none 0 0, .slice none 0 0, .slice none 0 0, .slice none 0 0, .slice none 0 0, .slice none 0 0, .slice none 0 0, .int .i64 0] 69)) (w.heap.size + 1 + 1) [.slice none 0 0, .slice none 0 0, .slice none 0 0, .slice none 0 0, .int .i64 0, .slice none 0 0, .slice none 0 0, .slice none 0 0, .slice none 0 0, .slice none 0 0, .slice none 0 0, .slice none 0 0, .int .i64 0] := by have a := Box.new ((w.alloc (.cells #[.slice H.Base.Mem.Heap.Bytes.a H.Base.Mem.Heap.Bytes.len H.Base.Mem.Heap.Bytes.cap, .slice H.Base.Mem.Heap.Class.a H.Base.Mem.Heap.Class.len H.Base.Mem.Heap.Class.cap, .slice H.Base.Mem.Lists.Global.a H.Base.Mem.Lists.Global.len H.Base.Mem.Lists.Global.cap, .slice H.Base.Mem.Lists.Own.a H.Base.Mem.Lists.Own.len H.Base.Mem.Lists.Own.cap, .int .i64 x.Base.Clock.Epoch, .slice H.Base.Clock.Pins.a H.Base.Clock.Pins.len H.Base.Clock.Pins.cap, .slice H.Base.Limbo.a H.Base.Limbo.len H.Base.Limbo.cap, .slice H.Base.Haz.a H.Base.Haz.len H.Base.Haz.cap, .slice H.Cells.a H.Cells.len H.Cells.cap, .slice H.Jobs.a H.Jobs.len H.Jobs.cap, .slice H.Todo.a H.Todo.len H.Todo.cap, .slice H.Log.a H.Log.len H.Log.cap, .int .i64 x.Serial] 62)).alloc (.cells #[.slice none 0 0, .slice none 0 0, .slice none 0 0, .slice none 0 0, .int .i64 0, .slice none 0 0, .slice none 0 0, .slice none 0 0, .slice none 0 0, .slice none 0 0, .slice none 0 0, .slice none 0 0, .int .i64 0] 69)) #[.slice none 0 0, .slice none 0 0, .slice none 0 0, .slice none 0 0, .int .i64 0, .slice none 0 0, .slice none 0 0, .slice none 0 0, .slice none 0 0, .slice none 0 0, .slice none 0 0, .slice none 0 0, .int .i64 0] 69; simpa using a
  have hB0 : Below w.heap.size w (((w.alloc (.cells #[.slice H.Base.Mem.Heap.Bytes.a H.Base.Mem.Heap.Bytes.len H.Base.Mem.Heap.Bytes.cap, .slice H.Base.Mem.Heap.Class.a H.Base.Mem.Heap.Class.len H.Base.Mem.Heap.Class.cap, .slice H.Base.Mem.Lists.Global.a H.Base.Mem.Lists.Global.len H.Base.Mem.Lists.Global.cap, .slice H.Base.Mem.Lists.Own.a H.Base.Mem.Lists.Own.len H.Base.Mem.Lists.Own.cap, .int .i64 x.Base.Clock.Epoch, .slice H.Base.Clock.Pins.a H.Base.Clock.Pins.len H.Base.Clock.Pins.cap, .slice H.Base.Limbo.a H.Base.Limbo.len H.Base.Limbo.cap, .slice H.Base.Haz.a H.Base.Haz.len H.Base.Haz.cap, .slice H.Cells.a H.Cells.len H.Cells.cap, .slice H.Jobs.a H.Jobs.len H.Jobs.cap, .slice H.Todo.a H.Todo.len H.Todo.cap, .slice H.Log.a H.Log.len H.Log.cap, .int .i64 x.Serial] 62)).alloc (.cells #[.slice none 0 0, .slice none 0 0, .slice none 0 0, .slice none 0 0, .int .i64 0, .slice none 0 0, .slice none 0 0, .slice none 0 0, .slice none 0 0, .slice none 0 0, .slice none 0 0, .slice none 0 0, .int .i64 0] 69)).alloc (.cells #[.slice none 0 0, .slice none 0 0, .slice none 0 0, .slice none 0 0, .int .i64 0, .slice none 0 0, .slice none 0 0, .slice none 0 0, .slice none 0 0, .slice none 0 0, .slice none 0 0, .slice none 0 0, .int .i64 0] 69)) := by repeat (first | exact Below.refl _ _ | refine Below.alloc ?_ (by simp <;> omega) _ | refine below_grow_of ?_ (by simp <;> omega) _ _ | refine Below.drew ?_ | refine below_drewN ?_ _)
  go_enter Tryz.func22, Tryz.ntmps22
  go_wp2_with fail
  refine (toBase_ct _ H.Base x.Base (rdBase_up h.Base (hB0.trans (Chg.below (F := [(w.heap.size + 1 + 1)]) (by (repeat (with_reducible refine Chg.set_ ?_ (by simp) _)); with_reducible exact Chg.refl _ _) (by first | exact hB0.size | omega) (by intro g hg; have := List.mem_singleton.1 hg; omega)))) hs0).mono ?_
  rintro e w1 ⟨K0, rfl, ho0, hf0, hb0⟩
  have hf0' : ∀ g ∈ K0.foot, (w.heap.size + 1 + 1) < g := fun g hg => by have a := hf0 g hg; have b := bo0.lt; (try simp at a b); omega
  clear hf0
  have ba1 : Box w1 w.heap.size [.slice H.Base.Mem.Heap.Bytes.a H.Base.Mem.Heap.Bytes.len H.Base.Mem.Heap.Bytes.cap, .slice H.Base.Mem.Heap.Class.a H.Base.Mem.Heap.Class.len H.Base.Mem.Heap.Class.cap, .slice H.Base.Mem.Lists.Global.a H.Base.Mem.Lists.Global.len H.Base.Mem.Lists.Global.cap, .slice H.Base.Mem.Lists.Own.a H.Base.Mem.Lists.Own.len H.Base.Mem.Lists.Own.cap, .int .i64 x.Base.Clock.Epoch, .slice H.Base.Clock.Pins.a H.Base.Clock.Pins.len H.Base.Clock.Pins.cap, .slice H.Base.Limbo.a H.Base.Limbo.len H.Base.Limbo.cap, .slice H.Base.Haz.a H.Base.Haz.len H.Base.Haz.cap, .slice H.Cells.a H.Cells.len H.Cells.cap, .slice H.Jobs.a H.Jobs.len H.Jobs.cap, .slice H.Todo.a H.Todo.len H.Todo.cap, .slice H.Log.a H.Log.len H.Log.cap, .int .i64 x.Serial] := Box.below (ba0.chg (F := [(w.heap.size + 1 + 1)]) (by (repeat (with_reducible refine Chg.set_ ?_ (by simp) _)); with_reducible exact Chg.refl _ _) (by simp <;> omega)) hb0
  have br1 : Box w1 (w.heap.size + 1) [.slice none 0 0, .slice none 0 0, .slice none 0 0, .slice none 0 0, .int .i64 0, .slice none 0 0, .slice none 0 0, .slice none 0 0, .slice none 0 0, .slice none 0 0, .slice none 0 0, .slice none 0 0, .int .i64 0] := Box.below (br0.chg (F := [(w.heap.size + 1 + 1)]) (by (repeat (with_reducible refine Chg.set_ ?_ (by simp) _)); with_reducible exact Chg.refl _ _) (by simp <;> omega)) hb0
  have bo1 : Box w1 (w.heap.size + 1 + 1) [.slice none 0 0, .slice none 0 0, .slice none 0 0, .slice none 0 0, .int .i64 0, .slice none 0 0, .slice none 0 0, .slice none 0 0, .slice none 0 0, .slice none 0 0, .slice none 0 0, .slice none 0 0, .int .i64 0] := Box.below bo0 hb0
  have hC1 : Chg [(w.heap.size + 1 + 1)] (((w.alloc (.cells #[.slice H.Base.Mem.Heap.Bytes.a H.Base.Mem.Heap.Bytes.len H.Base.Mem.Heap.Bytes.cap, .slice H.Base.Mem.Heap.Class.a H.Base.Mem.Heap.Class.len H.Base.Mem.Heap.Class.cap, .slice H.Base.Mem.Lists.Global.a H.Base.Mem.Lists.Global.len H.Base.Mem.Lists.Global.cap, .slice H.Base.Mem.Lists.Own.a H.Base.Mem.Lists.Own.len H.Base.Mem.Lists.Own.cap, .int .i64 x.Base.Clock.Epoch, .slice H.Base.Clock.Pins.a H.Base.Clock.Pins.len H.Base.Clock.Pins.cap, .slice H.Base.Limbo.a H.Base.Limbo.len H.Base.Limbo.cap, .slice H.Base.Haz.a H.Base.Haz.len H.Base.Haz.cap, .slice H.Cells.a H.Cells.len H.Cells.cap, .slice H.Jobs.a H.Jobs.len H.Jobs.cap, .slice H.Todo.a H.Todo.len H.Todo.cap, .slice H.Log.a H.Log.len H.Log.cap, .int .i64 x.Serial] 62)).alloc (.cells #[.slice none 0 0, .slice none 0 0, .slice none 0 0, .slice none 0 0, .int .i64 0, .slice none 0 0, .slice none 0 0, .slice none 0 0, .slice none 0 0, .slice none 0 0, .slice none 0 0, .slice none 0 0, .int .i64 0] 69)).alloc (.cells #[.slice none 0 0, .slice none 0 0, .slice none 0 0, .slice none 0 0, .int .i64 0, .slice none 0 0, .slice none 0 0, .slice none 0 0, .slice none 0 0, .slice none 0 0, .slice none 0 0, .slice none 0 0, .int .i64 0] 69)) w1 := Chg.trans (by (repeat (with_reducible refine Chg.set_ ?_ (by simp) _)); with_reducible exact Chg.refl _ _) (Chg.of_below hb0)
  have hB1 : Below w.heap.size w w1 := hB0.trans (hC1.below hB0.size (by intro g hg; have := List.mem_singleton.1 hg; omega))
  clear hb0 ba0 br0 bo0 hB0 hC1
  have qa0 := ba1.cell 0 _ rfl
  have qa1 := ba1.cell 1 _ rfl
  have qa2 := ba1.cell 2 _ rfl
  have qa3 := ba1.cell 3 _ rfl
  have qa4 := ba1.cell 4 _ rfl
  have qa5 := ba1.cell 5 _ rfl
  have qa6 := ba1.cell 6 _ rfl
  have qa7 := ba1.cell 7 _ rfl
  have qa8 := ba1.cell 8 _ rfl
  have qa9 := ba1.cell 9 _ rfl
  have qa10 := ba1.cell 10 _ rfl
  have qa11 := ba1.cell 11 _ rfl
  have qa12 := ba1.cell 12 _ rfl
  have qo0 := bo1.cell 0 _ rfl
  have qo1 := bo1.cell 1 _ rfl
  have qo2 := bo1.cell 2 _ rfl
  have qo3 := bo1.cell 3 _ rfl
  have qo4 := bo1.cell 4 _ rfl
  have qo5 := bo1.cell 5 _ rfl
  have qo6 := bo1.cell 6 _ rfl
  have qo7 := bo1.cell 7 _ rfl
  have qo8 := bo1.cell 8 _ rfl
  have qo9 := bo1.cell 9 _ rfl
  have qo10 := bo1.cell 10 _ rfl
  have qo11 := bo1.cell 11 _ rfl
  have qo12 := bo1.cell 12 _ rfl
  have qf := bo1.fro
  have ql1 := ba1.lt
  have ql2 := bo1.lt
  go_wp2_with fail
  refine (toIntS_w _ H.Cells x.Cells (rd_up h.Cells (hB1.trans (Chg.below (F := [(w.heap.size + 1 + 1)]) (by (repeat (with_reducible refine Chg.set_ ?_ (by simp) _)); with_reducible exact Chg.refl _ _) (by first | exact hB1.size | omega) (by intro g hg; have := List.mem_singleton.1 hg; omega)))) hs1).mono ?_
  rintro e w2 ⟨K1, rfl, ho1, hf1, hb1⟩
  clear qa0 qa1 qa2 qa3 qa4 qa5 qa6 qa7 qa8 qa9 qa10 qa11 qa12 qo0 qo1 qo2 qo3 qo4 qo5 qo6 qo7 qo8 qo9 qo10 qo11 qo12 qf ql1 ql2
  have hd0_1 : ∀ g ∈ K0.foot, g ∉ foot1 K1.val := fun g hg hm => by have a := hf1 g hm; have b := ho0.lt g hg; (try simp at a); omega
  have hf1' : ∀ g ∈ foot1 K1.val, (w.heap.size + 1 + 1) < g := fun g hg => by have a := hf1 g hg; have b := bo1.lt; (try simp at a b); omega
  clear hf1
  have ba2 : Box w2 w.heap.size [.slice H.Base.Mem.Heap.Bytes.a H.Base.Mem.Heap.Bytes.len H.Base.Mem.Heap.Bytes.cap, .slice H.Base.Mem.Heap.Class.a H.Base.Mem.Heap.Class.len H.Base.Mem.Heap.Class.cap, .slice H.Base.Mem.Lists.Global.a H.Base.Mem.Lists.Global.len H.Base.Mem.Lists.Global.cap, .slice H.Base.Mem.Lists.Own.a H.Base.Mem.Lists.Own.len H.Base.Mem.Lists.Own.cap, .int .i64 x.Base.Clock.Epoch, .slice H.Base.Clock.Pins.a H.Base.Clock.Pins.len H.Base.Clock.Pins.cap, .slice H.Base.Limbo.a H.Base.Limbo.len H.Base.Limbo.cap, .slice H.Base.Haz.a H.Base.Haz.len H.Base.Haz.cap, .slice H.Cells.a H.Cells.len H.Cells.cap, .slice H.Jobs.a H.Jobs.len H.Jobs.cap, .slice H.Todo.a H.Todo.len H.Todo.cap, .slice H.Log.a H.Log.len H.Log.cap, .int .i64 x.Serial] := Box.below (ba1.chg (F := [(w.heap.size + 1 + 1)]) (by (repeat (with_reducible refine Chg.set_ ?_ (by simp) _)); with_reducible exact Chg.refl _ _) (by simp <;> omega)) hb1
  have br2 : Box w2 (w.heap.size + 1) [.slice none 0 0, .slice none 0 0, .slice none 0 0, .slice none 0 0, .int .i64 0, .slice none 0 0, .slice none 0 0, .slice none 0 0, .slice none 0 0, .slice none 0 0, .slice none 0 0, .slice none 0 0, .int .i64 0] := Box.below (br1.chg (F := [(w.heap.size + 1 + 1)]) (by (repeat (with_reducible refine Chg.set_ ?_ (by simp) _)); with_reducible exact Chg.refl _ _) (by simp <;> omega)) hb1
  have bo2 : Box w2 (w.heap.size + 1 + 1) [.slice K0.Mem.Heap.Bytes.a K0.Mem.Heap.Bytes.len K0.Mem.Heap.Bytes.cap, .slice K0.Mem.Heap.Class.a K0.Mem.Heap.Class.len K0.Mem.Heap.Class.cap, .slice K0.Mem.Lists.Global.a K0.Mem.Lists.Global.len K0.Mem.Lists.Global.cap, .slice K0.Mem.Lists.Own.a K0.Mem.Lists.Own.len K0.Mem.Lists.Own.cap, .int .i64 x.Base.Clock.Epoch, .slice K0.Clock.Pins.a K0.Clock.Pins.len K0.Clock.Pins.cap, .slice K0.Limbo.a K0.Limbo.len K0.Limbo.cap, .slice K0.Haz.a K0.Haz.len K0.Haz.cap, .slice none 0 0, .slice none 0 0, .slice none 0 0, .slice none 0 0, .int .i64 0] := Box.below ((((((((bo1.set 0 (.slice K0.Mem.Heap.Bytes.a K0.Mem.Heap.Bytes.len K0.Mem.Heap.Bytes.cap)).set 1 (.slice K0.Mem.Heap.Class.a K0.Mem.Heap.Class.len K0.Mem.Heap.Class.cap)).set 2 (.slice K0.Mem.Lists.Global.a K0.Mem.Lists.Global.len K0.Mem.Lists.Global.cap)).set 3 (.slice K0.Mem.Lists.Own.a K0.Mem.Lists.Own.len K0.Mem.Lists.Own.cap)).set 4 (.int .i64 x.Base.Clock.Epoch)).set 5 (.slice K0.Clock.Pins.a K0.Clock.Pins.len K0.Clock.Pins.cap)).set 6 (.slice K0.Limbo.a K0.Limbo.len K0.Limbo.cap)).set 7 (.slice K0.Haz.a K0.Haz.len K0.Haz.cap)) hb1
  have hC2 : Chg [(w.heap.size + 1 + 1)] w1 w2 := Chg.trans (by (repeat (with_reducible refine Chg.set_ ?_ (by simp) _)); with_reducible exact Chg.refl _ _) (Chg.of_below hb1)
  have hB2 : Below w.heap.size w w2 := hB1.trans (hC2.below hB1.size (by intro g hg; have := List.mem_singleton.1 hg; omega))
  replace ho0 := ho0.chg hC2 (by intro g hg hm; have a := hf0' g hg; have b := List.mem_singleton.1 hm; omega)
  clear hb1 ba1 br1 bo1 hB1 hC2
  have qa0 := ba2.cell 0 _ rfl
  have qa1 := ba2.cell 1 _ rfl
  have qa2 := ba2.cell 2 _ rfl
  have qa3 := ba2.cell 3 _ rfl
  have qa4 := ba2.cell 4 _ rfl
  have qa5 := ba2.cell 5 _ rfl
  have qa6 := ba2.cell 6 _ rfl
  have qa7 := ba2.cell 7 _ rfl
  have qa8 := ba2.cell 8 _ rfl
  have qa9 := ba2.cell 9 _ rfl
  have qa10 := ba2.cell 10 _ rfl
  have qa11 := ba2.cell 11 _ rfl
  have qa12 := ba2.cell 12 _ rfl
  have qo0 := bo2.cell 0 _ rfl
  have qo1 := bo2.cell 1 _ rfl
  have qo2 := bo2.cell 2 _ rfl
  have qo3 := bo2.cell 3 _ rfl
  have qo4 := bo2.cell 4 _ rfl
  have qo5 := bo2.cell 5 _ rfl
  have qo6 := bo2.cell 6 _ rfl
  have qo7 := bo2.cell 7 _ rfl
  have qo8 := bo2.cell 8 _ rfl
  have qo9 := bo2.cell 9 _ rfl
  have qo10 := bo2.cell 10 _ rfl
  have qo11 := bo2.cell 11 _ rfl
  have qo12 := bo2.cell 12 _ rfl
  have qf := bo2.fro
  have ql1 := ba2.lt
  have ql2 := bo2.lt
  go_wp2_with fail
  refine (toJobS_w _ H.Jobs x.Jobs (rd_up h.Jobs (hB2.trans (Chg.below (F := [(w.heap.size + 1 + 1)]) (by (repeat (with_reducible refine Chg.set_ ?_ (by simp) _)); with_reducible exact Chg.refl _ _) (by first | exact hB2.size | omega) (by intro g hg; have := List.mem_singleton.1 hg; omega)))) hs2).mono ?_
  rintro e w3 ⟨K2, rfl, ho2, hf2, hb2⟩
  clear qa0 qa1 qa2 qa3 qa4 qa5 qa6 qa7 qa8 qa9 qa10 qa11 qa12 qo0 qo1 qo2 qo3 qo4 qo5 qo6 qo7 qo8 qo9 qo10 qo11 qo12 qf ql1 ql2
  have hd0_2 : ∀ g ∈ K0.foot, g ∉ foot1 K2.val := fun g hg hm => by have a := hf2 g hm; have b := ho0.lt g hg; (try simp at a); omega
  have hd1_2 : ∀ g ∈ foot1 K1.val, g ∉ foot1 K2.val := fun g hg hm => by have a := hf2 g hm; have b := foot_lt ho1 g hg; (try simp at a); omega
  have hf2' : ∀ g ∈ foot1 K2.val, (w.heap.size + 1 + 1) < g := fun g hg => by have a := hf2 g hg; have b := bo2.lt; (try simp at a b); omega
  clear hf2
  have ba3 : Box w3 w.heap.size [.slice H.Base.Mem.Heap.Bytes.a H.Base.Mem.Heap.Bytes.len H.Base.Mem.Heap.Bytes.cap, .slice H.Base.Mem.Heap.Class.a H.Base.Mem.Heap.Class.len H.Base.Mem.Heap.Class.cap, .slice H.Base.Mem.Lists.Global.a H.Base.Mem.Lists.Global.len H.Base.Mem.Lists.Global.cap, .slice H.Base.Mem.Lists.Own.a H.Base.Mem.Lists.Own.len H.Base.Mem.Lists.Own.cap, .int .i64 x.Base.Clock.Epoch, .slice H.Base.Clock.Pins.a H.Base.Clock.Pins.len H.Base.Clock.Pins.cap, .slice H.Base.Limbo.a H.Base.Limbo.len H.Base.Limbo.cap, .slice H.Base.Haz.a H.Base.Haz.len H.Base.Haz.cap, .slice H.Cells.a H.Cells.len H.Cells.cap, .slice H.Jobs.a H.Jobs.len H.Jobs.cap, .slice H.Todo.a H.Todo.len H.Todo.cap, .slice H.Log.a H.Log.len H.Log.cap, .int .i64 x.Serial] := Box.below (ba2.chg (F := [(w.heap.size + 1 + 1)]) (by (repeat (with_reducible refine Chg.set_ ?_ (by simp) _)); with_reducible exact Chg.refl _ _) (by simp <;> omega)) hb2
  have br3 : Box w3 (w.heap.size + 1) [.slice none 0 0, .slice none 0 0, .slice none 0 0, .slice none 0 0, .int .i64 0, .slice none 0 0, .slice none 0 0, .slice none 0 0, .slice none 0 0, .slice none 0 0, .slice none 0 0, .slice none 0 0, .int .i64 0] := Box.below (br2.chg (F := [(w.heap.size + 1 + 1)]) (by (repeat (with_reducible refine Chg.set_ ?_ (by simp) _)); with_reducible exact Chg.refl _ _) (by simp <;> omega)) hb2
  have bo3 : Box w3 (w.heap.size + 1 + 1) [.slice K0.Mem.Heap.Bytes.a K0.Mem.Heap.Bytes.len K0.Mem.Heap.Bytes.cap, .slice K0.Mem.Heap.Class.a K0.Mem.Heap.Class.len K0.Mem.Heap.Class.cap, .slice K0.Mem.Lists.Global.a K0.Mem.Lists.Global.len K0.Mem.Lists.Global.cap, .slice K0.Mem.Lists.Own.a K0.Mem.Lists.Own.len K0.Mem.Lists.Own.cap, .int .i64 x.Base.Clock.Epoch, .slice K0.Clock.Pins.a K0.Clock.Pins.len K0.Clock.Pins.cap, .slice K0.Limbo.a K0.Limbo.len K0.Limbo.cap, .slice K0.Haz.a K0.Haz.len K0.Haz.cap, .slice K1.a K1.len K1.cap, .slice none 0 0, .slice none 0 0, .slice none 0 0, .int .i64 0] := Box.below (bo2.set 8 (.slice K1.a K1.len K1.cap)) hb2
  have hC3 : Chg [(w.heap.size + 1 + 1)] w2 w3 := Chg.trans (by (repeat (with_reducible refine Chg.set_ ?_ (by simp) _)); with_reducible exact Chg.refl _ _) (Chg.of_below hb2)
  have hB3 : Below w.heap.size w w3 := hB2.trans (hC3.below hB2.size (by intro g hg; have := List.mem_singleton.1 hg; omega))
  replace ho0 := ho0.chg hC3 (by intro g hg hm; have a := hf0' g hg; have b := List.mem_singleton.1 hm; omega)
  replace ho1 := ho1.chg hC3 (by intro g hg hm; have a := hf1' g hg; have b := List.mem_singleton.1 hm; omega)
  clear hb2 ba2 br2 bo2 hB2 hC3
  have qa0 := ba3.cell 0 _ rfl
  have qa1 := ba3.cell 1 _ rfl
  have qa2 := ba3.cell 2 _ rfl
  have qa3 := ba3.cell 3 _ rfl
  have qa4 := ba3.cell 4 _ rfl
  have qa5 := ba3.cell 5 _ rfl
  have qa6 := ba3.cell 6 _ rfl
  have qa7 := ba3.cell 7 _ rfl
  have qa8 := ba3.cell 8 _ rfl
  have qa9 := ba3.cell 9 _ rfl
  have qa10 := ba3.cell 10 _ rfl
  have qa11 := ba3.cell 11 _ rfl
  have qa12 := ba3.cell 12 _ rfl
  have qo0 := bo3.cell 0 _ rfl
  have qo1 := bo3.cell 1 _ rfl
  have qo2 := bo3.cell 2 _ rfl
  have qo3 := bo3.cell 3 _ rfl
  have qo4 := bo3.cell 4 _ rfl
  have qo5 := bo3.cell 5 _ rfl
  have qo6 := bo3.cell 6 _ rfl
  have qo7 := bo3.cell 7 _ rfl
  have qo8 := bo3.cell 8 _ rfl
  have qo9 := bo3.cell 9 _ rfl
  have qo10 := bo3.cell 10 _ rfl
  have qo11 := bo3.cell 11 _ rfl
  have qo12 := bo3.cell 12 _ rfl
  have qf := bo3.fro
  have ql1 := ba3.lt
  have ql2 := bo3.lt
  go_wp2_with fail
  refine (toQueueS_w _ H.Todo H.TodoT x.Todo (rdLL_up h.Todo (hB3.trans (Chg.below (F := [(w.heap.size + 1 + 1)]) (by (repeat (with_reducible refine Chg.set_ ?_ (by simp) _)); with_reducible exact Chg.refl _ _) (by first | exact hB3.size | omega) (by intro g hg; have := List.mem_singleton.1 hg; omega)))) hs3).mono ?_
  rintro e w4 ⟨K3, T3, rfl, ho3, hf3, hb3⟩
  clear qa0 qa1 qa2 qa3 qa4 qa5 qa6 qa7 qa8 qa9 qa10 qa11 qa12 qo0 qo1 qo2 qo3 qo4 qo5 qo6 qo7 qo8 qo9 qo10 qo11 qo12 qf ql1 ql2
  have hd0_3 : ∀ g ∈ K0.foot, g ∉ foot2 K3.val T3 := fun g hg hm => by have a := hf3 g hm; have b := ho0.lt g hg; (try simp at a); omega
  have hd1_3 : ∀ g ∈ foot1 K1.val, g ∉ foot2 K3.val T3 := fun g hg hm => by have a := hf3 g hm; have b := foot_lt ho1 g hg; (try simp at a); omega
  have hd2_3 : ∀ g ∈ foot1 K2.val, g ∉ foot2 K3.val T3 := fun g hg hm => by have a := hf3 g hm; have b := foot_lt ho2 g hg; (try simp at a); omega
  have hf3' : ∀ g ∈ foot2 K3.val T3, (w.heap.size + 1 + 1) < g := fun g hg => by have a := hf3 g hg; have b := bo3.lt; (try simp at a b); omega
  clear hf3
  have ba4 : Box w4 w.heap.size [.slice H.Base.Mem.Heap.Bytes.a H.Base.Mem.Heap.Bytes.len H.Base.Mem.Heap.Bytes.cap, .slice H.Base.Mem.Heap.Class.a H.Base.Mem.Heap.Class.len H.Base.Mem.Heap.Class.cap, .slice H.Base.Mem.Lists.Global.a H.Base.Mem.Lists.Global.len H.Base.Mem.Lists.Global.cap, .slice H.Base.Mem.Lists.Own.a H.Base.Mem.Lists.Own.len H.Base.Mem.Lists.Own.cap, .int .i64 x.Base.Clock.Epoch, .slice H.Base.Clock.Pins.a H.Base.Clock.Pins.len H.Base.Clock.Pins.cap, .slice H.Base.Limbo.a H.Base.Limbo.len H.Base.Limbo.cap, .slice H.Base.Haz.a H.Base.Haz.len H.Base.Haz.cap, .slice H.Cells.a H.Cells.len H.Cells.cap, .slice H.Jobs.a H.Jobs.len H.Jobs.cap, .slice H.Todo.a H.Todo.len H.Todo.cap, .slice H.Log.a H.Log.len H.Log.cap, .int .i64 x.Serial] := Box.below (ba3.chg (F := [(w.heap.size + 1 + 1)]) (by (repeat (with_reducible refine Chg.set_ ?_ (by simp) _)); with_reducible exact Chg.refl _ _) (by simp <;> omega)) hb3
  have br4 : Box w4 (w.heap.size + 1) [.slice none 0 0, .slice none 0 0, .slice none 0 0, .slice none 0 0, .int .i64 0, .slice none 0 0, .slice none 0 0, .slice none 0 0, .slice none 0 0, .slice none 0 0, .slice none 0 0, .slice none 0 0, .int .i64 0] := Box.below (br3.chg (F := [(w.heap.size + 1 + 1)]) (by (repeat (with_reducible refine Chg.set_ ?_ (by simp) _)); with_reducible exact Chg.refl _ _) (by simp <;> omega)) hb3
  have bo4 : Box w4 (w.heap.size + 1 + 1) [.slice K0.Mem.Heap.Bytes.a K0.Mem.Heap.Bytes.len K0.Mem.Heap.Bytes.cap, .slice K0.Mem.Heap.Class.a K0.Mem.Heap.Class.len K0.Mem.Heap.Class.cap, .slice K0.Mem.Lists.Global.a K0.Mem.Lists.Global.len K0.Mem.Lists.Global.cap, .slice K0.Mem.Lists.Own.a K0.Mem.Lists.Own.len K0.Mem.Lists.Own.cap, .int .i64 x.Base.Clock.Epoch, .slice K0.Clock.Pins.a K0.Clock.Pins.len K0.Clock.Pins.cap, .slice K0.Limbo.a K0.Limbo.len K0.Limbo.cap, .slice K0.Haz.a K0.Haz.len K0.Haz.cap, .slice K1.a K1.len K1.cap, .slice K2.a K2.len K2.cap, .slice none 0 0, .slice none 0 0, .int .i64 0] := Box.below (bo3.set 9 (.slice K2.a K2.len K2.cap)) hb3
  have hC4 : Chg [(w.heap.size + 1 + 1)] w3 w4 := Chg.trans (by (repeat (with_reducible refine Chg.set_ ?_ (by simp) _)); with_reducible exact Chg.refl _ _) (Chg.of_below hb3)
  have hB4 : Below w.heap.size w w4 := hB3.trans (hC4.below hB3.size (by intro g hg; have := List.mem_singleton.1 hg; omega))
  replace ho0 := ho0.chg hC4 (by intro g hg hm; have a := hf0' g hg; have b := List.mem_singleton.1 hm; omega)
  replace ho1 := ho1.chg hC4 (by intro g hg hm; have a := hf1' g hg; have b := List.mem_singleton.1 hm; omega)
  replace ho2 := ho2.chg hC4 (by intro g hg hm; have a := hf2' g hg; have b := List.mem_singleton.1 hm; omega)
  clear hb3 ba3 br3 bo3 hB3 hC4
  have qa0 := ba4.cell 0 _ rfl
  have qa1 := ba4.cell 1 _ rfl
  have qa2 := ba4.cell 2 _ rfl
  have qa3 := ba4.cell 3 _ rfl
  have qa4 := ba4.cell 4 _ rfl
  have qa5 := ba4.cell 5 _ rfl
  have qa6 := ba4.cell 6 _ rfl
  have qa7 := ba4.cell 7 _ rfl
  have qa8 := ba4.cell 8 _ rfl
  have qa9 := ba4.cell 9 _ rfl
  have qa10 := ba4.cell 10 _ rfl
  have qa11 := ba4.cell 11 _ rfl
  have qa12 := ba4.cell 12 _ rfl
  have qo0 := bo4.cell 0 _ rfl
  have qo1 := bo4.cell 1 _ rfl
  have qo2 := bo4.cell 2 _ rfl
  have qo3 := bo4.cell 3 _ rfl
  have qo4 := bo4.cell 4 _ rfl
  have qo5 := bo4.cell 5 _ rfl
  have qo6 := bo4.cell 6 _ rfl
  have qo7 := bo4.cell 7 _ rfl
  have qo8 := bo4.cell 8 _ rfl
  have qo9 := bo4.cell 9 _ rfl
  have qo10 := bo4.cell 10 _ rfl
  have qo11 := bo4.cell 11 _ rfl
  have qo12 := bo4.cell 12 _ rfl
  have qf := bo4.fro
  have ql1 := ba4.lt
  have ql2 := bo4.lt
  go_wp2_with fail
  refine (toEvS_w _ H.Log x.Log (rd_up h.Log (hB4.trans (Chg.below (F := [(w.heap.size + 1 + 1)]) (by (repeat (with_reducible refine Chg.set_ ?_ (by simp) _)); with_reducible exact Chg.refl _ _) (by first | exact hB4.size | omega) (by intro g hg; have := List.mem_singleton.1 hg; omega)))) hs4).mono ?_
  rintro e w5 ⟨K4, rfl, ho4, hf4, hb4⟩
  clear qa0 qa1 qa2 qa3 qa4 qa5 qa6 qa7 qa8 qa9 qa10 qa11 qa12 qo0 qo1 qo2 qo3 qo4 qo5 qo6 qo7 qo8 qo9 qo10 qo11 qo12 qf ql1 ql2
  have hd0_4 : ∀ g ∈ K0.foot, g ∉ foot1 K4.val := fun g hg hm => by have a := hf4 g hm; have b := ho0.lt g hg; (try simp at a); omega
  have hd1_4 : ∀ g ∈ foot1 K1.val, g ∉ foot1 K4.val := fun g hg hm => by have a := hf4 g hm; have b := foot_lt ho1 g hg; (try simp at a); omega
  have hd2_4 : ∀ g ∈ foot1 K2.val, g ∉ foot1 K4.val := fun g hg hm => by have a := hf4 g hm; have b := foot_lt ho2 g hg; (try simp at a); omega
  have hd3_4 : ∀ g ∈ foot2 K3.val T3, g ∉ foot1 K4.val := fun g hg hm => by have a := hf4 g hm; have b := ho3.lt g hg; (try simp at a); omega
  have hf4' : ∀ g ∈ foot1 K4.val, (w.heap.size + 1 + 1) < g := fun g hg => by have a := hf4 g hg; have b := bo4.lt; (try simp at a b); omega
  clear hf4
  have ba5 : Box w5 w.heap.size [.slice H.Base.Mem.Heap.Bytes.a H.Base.Mem.Heap.Bytes.len H.Base.Mem.Heap.Bytes.cap, .slice H.Base.Mem.Heap.Class.a H.Base.Mem.Heap.Class.len H.Base.Mem.Heap.Class.cap, .slice H.Base.Mem.Lists.Global.a H.Base.Mem.Lists.Global.len H.Base.Mem.Lists.Global.cap, .slice H.Base.Mem.Lists.Own.a H.Base.Mem.Lists.Own.len H.Base.Mem.Lists.Own.cap, .int .i64 x.Base.Clock.Epoch, .slice H.Base.Clock.Pins.a H.Base.Clock.Pins.len H.Base.Clock.Pins.cap, .slice H.Base.Limbo.a H.Base.Limbo.len H.Base.Limbo.cap, .slice H.Base.Haz.a H.Base.Haz.len H.Base.Haz.cap, .slice H.Cells.a H.Cells.len H.Cells.cap, .slice H.Jobs.a H.Jobs.len H.Jobs.cap, .slice H.Todo.a H.Todo.len H.Todo.cap, .slice H.Log.a H.Log.len H.Log.cap, .int .i64 x.Serial] := Box.below (ba4.chg (F := [(w.heap.size + 1 + 1)]) (by (repeat (with_reducible refine Chg.set_ ?_ (by simp) _)); with_reducible exact Chg.refl _ _) (by simp <;> omega)) hb4
  have br5 : Box w5 (w.heap.size + 1) [.slice none 0 0, .slice none 0 0, .slice none 0 0, .slice none 0 0, .int .i64 0, .slice none 0 0, .slice none 0 0, .slice none 0 0, .slice none 0 0, .slice none 0 0, .slice none 0 0, .slice none 0 0, .int .i64 0] := Box.below (br4.chg (F := [(w.heap.size + 1 + 1)]) (by (repeat (with_reducible refine Chg.set_ ?_ (by simp) _)); with_reducible exact Chg.refl _ _) (by simp <;> omega)) hb4
  have bo5 : Box w5 (w.heap.size + 1 + 1) [.slice K0.Mem.Heap.Bytes.a K0.Mem.Heap.Bytes.len K0.Mem.Heap.Bytes.cap, .slice K0.Mem.Heap.Class.a K0.Mem.Heap.Class.len K0.Mem.Heap.Class.cap, .slice K0.Mem.Lists.Global.a K0.Mem.Lists.Global.len K0.Mem.Lists.Global.cap, .slice K0.Mem.Lists.Own.a K0.Mem.Lists.Own.len K0.Mem.Lists.Own.cap, .int .i64 x.Base.Clock.Epoch, .slice K0.Clock.Pins.a K0.Clock.Pins.len K0.Clock.Pins.cap, .slice K0.Limbo.a K0.Limbo.len K0.Limbo.cap, .slice K0.Haz.a K0.Haz.len K0.Haz.cap, .slice K1.a K1.len K1.cap, .slice K2.a K2.len K2.cap, .slice K3.a K3.len K3.cap, .slice none 0 0, .int .i64 0] := Box.below (bo4.set 10 (.slice K3.a K3.len K3.cap)) hb4
  have hC5 : Chg [(w.heap.size + 1 + 1)] w4 w5 := Chg.trans (by (repeat (with_reducible refine Chg.set_ ?_ (by simp) _)); with_reducible exact Chg.refl _ _) (Chg.of_below hb4)
  have hB5 : Below w.heap.size w w5 := hB4.trans (hC5.below hB4.size (by intro g hg; have := List.mem_singleton.1 hg; omega))
  replace ho0 := ho0.chg hC5 (by intro g hg hm; have a := hf0' g hg; have b := List.mem_singleton.1 hm; omega)
  replace ho1 := ho1.chg hC5 (by intro g hg hm; have a := hf1' g hg; have b := List.mem_singleton.1 hm; omega)
  replace ho2 := ho2.chg hC5 (by intro g hg hm; have a := hf2' g hg; have b := List.mem_singleton.1 hm; omega)
  replace ho3 := ho3.chg hC5 (by intro g hg hm; have a := hf3' g hg; have b := List.mem_singleton.1 hm; omega)
  clear hb4 ba4 br4 bo4 hB4 hC5
  have qa0 := ba5.cell 0 _ rfl
  have qa1 := ba5.cell 1 _ rfl
  have qa2 := ba5.cell 2 _ rfl
  have qa3 := ba5.cell 3 _ rfl
  have qa4 := ba5.cell 4 _ rfl
  have qa5 := ba5.cell 5 _ rfl
  have qa6 := ba5.cell 6 _ rfl
  have qa7 := ba5.cell 7 _ rfl
  have qa8 := ba5.cell 8 _ rfl
  have qa9 := ba5.cell 9 _ rfl
  have qa10 := ba5.cell 10 _ rfl
  have qa11 := ba5.cell 11 _ rfl
  have qa12 := ba5.cell 12 _ rfl
  have qo0 := bo5.cell 0 _ rfl
  have qo1 := bo5.cell 1 _ rfl
  have qo2 := bo5.cell 2 _ rfl
  have qo3 := bo5.cell 3 _ rfl
  have qo4 := bo5.cell 4 _ rfl
  have qo5 := bo5.cell 5 _ rfl
  have qo6 := bo5.cell 6 _ rfl
  have qo7 := bo5.cell 7 _ rfl
  have qo8 := bo5.cell 8 _ rfl
  have qo9 := bo5.cell 9 _ rfl
  have qo10 := bo5.cell 10 _ rfl
  have qo11 := bo5.cell 11 _ rfl
  have qo12 := bo5.cell 12 _ rfl
  have qf := bo5.fro
  have qg := br5.fro
  have qr0 := br5.cell 0 _ rfl
  have qr1 := br5.cell 1 _ rfl
  have qr2 := br5.cell 2 _ rfl
  have qr3 := br5.cell 3 _ rfl
  have qr4 := br5.cell 4 _ rfl
  have qr5 := br5.cell 5 _ rfl
  have qr6 := br5.cell 6 _ rfl
  have qr7 := br5.cell 7 _ rfl
  have qr8 := br5.cell 8 _ rfl
  have qr9 := br5.cell 9 _ rfl
  have qr10 := br5.cell 10 _ rfl
  have qr11 := br5.cell 11 _ rfl
  have qr12 := br5.cell 12 _ rfl
  have ql1 := ba5.lt
  have ql2 := bo5.lt
  go_wp2
  refine bodyPost_ret (v := .agg #[.slice K0.Mem.Heap.Bytes.a K0.Mem.Heap.Bytes.len K0.Mem.Heap.Bytes.cap, .slice K0.Mem.Heap.Class.a K0.Mem.Heap.Class.len K0.Mem.Heap.Class.cap, .slice K0.Mem.Lists.Global.a K0.Mem.Lists.Global.len K0.Mem.Lists.Global.cap, .slice K0.Mem.Lists.Own.a K0.Mem.Lists.Own.len K0.Mem.Lists.Own.cap, .int .i64 x.Base.Clock.Epoch, .slice K0.Clock.Pins.a K0.Clock.Pins.len K0.Clock.Pins.cap, .slice K0.Limbo.a K0.Limbo.len K0.Limbo.cap, .slice K0.Haz.a K0.Haz.len K0.Haz.cap, .slice K1.a K1.len K1.cap, .slice K2.a K2.len K2.cap, .slice K3.a K3.len K3.cap, .slice K4.a K4.len K4.cap, .int .i64 x.Serial]) (by simp [results, Tryz.results22, go_sem, *]) rfl ⟨⟨K0, K1, K2, K3, T3, K4⟩, rfl, ⟨?_, ?_, ?_, ?_, ?_, hd0_1, hd0_2, hd0_3, hd0_4, hd1_2, hd1_3, hd1_4, hd2_3, hd2_4, hd3_4⟩, ?_, ?_⟩
  · exact ho0.chg (F := [(w.heap.size + 1 + 1), (w.heap.size + 1)]) (by (repeat (with_reducible refine Chg.set_ ?_ (by simp) _)); with_reducible exact Chg.refl _ _) (by intro g hg hm; have a := hf0' g hg; simp at hm; omega)
  · exact ho1.chg (F := [(w.heap.size + 1 + 1), (w.heap.size + 1)]) (by (repeat (with_reducible refine Chg.set_ ?_ (by simp) _)); with_reducible exact Chg.refl _ _) (by intro g hg hm; have a := hf1' g hg; simp at hm; omega)
  · exact ho2.chg (F := [(w.heap.size + 1 + 1), (w.heap.size + 1)]) (by (repeat (with_reducible refine Chg.set_ ?_ (by simp) _)); with_reducible exact Chg.refl _ _) (by intro g hg hm; have a := hf2' g hg; simp at hm; omega)
  · exact ho3.chg (F := [(w.heap.size + 1 + 1), (w.heap.size + 1)]) (by (repeat (with_reducible refine Chg.set_ ?_ (by simp) _)); with_reducible exact Chg.refl _ _) (by intro g hg hm; have a := hf3' g hg; simp at hm; omega)
  · exact ho4.chg (F := [(w.heap.size + 1 + 1), (w.heap.size + 1)]) (by (repeat (with_reducible refine Chg.set_ ?_ (by simp) _)); with_reducible exact Chg.refl _ _) (by intro g hg hm; have a := hf4' g hg; simp at hm; omega)
  · intro g hg
    rcases HShelf.mem_foot.1 hg with hg | hg | hg | hg | hg
    · have a := hf0' g hg
      omega
    · have a := hf1' g hg
      omega
    · have a := hf2' g hg
      omega
    · have a := hf3' g hg
      omega
    · have a := hf4' g hg
      omega
  · exact hB5.trans (Chg.below (F := [(w.heap.size + 1 + 1), (w.heap.size + 1)]) (by (repeat (with_reducible refine Chg.set_ ?_ (by simp) _)); with_reducible exact Chg.refl _ _) hB5.size (by intro g hg; simp at hg; omega))

set_option maxRecDepth 100000 in
set_option maxHeartbeats 4000000 in
theorem eqShelf_ct (w : World) (H1 H2 : HShelf) (x : Shelf) (h1 : RdShelf w w.heap.size H1 x) (h2 : RdShelf w w.heap.size H2 x) (hs : sizeShelf x ≤ 1073741824) :
    Calls Tryz.prog 24 #[.agg #[.slice H1.Base.Mem.Heap.Bytes.a H1.Base.Mem.Heap.Bytes.len H1.Base.Mem.Heap.Bytes.cap, .slice H1.Base.Mem.Heap.Class.a H1.Base.Mem.Heap.Class.len H1.Base.Mem.Heap.Class.cap, .slice H1.Base.Mem.Lists.Global.a H1.Base.Mem.Lists.Global.len H1.Base.Mem.Lists.Global.cap, .slice H1.Base.Mem.Lists.Own.a H1.Base.Mem.Lists.Own.len H1.Base.Mem.Lists.Own.cap, .int .i64 x.Base.Clock.Epoch, .slice H1.Base.Clock.Pins.a H1.Base.Clock.Pins.len H1.Base.Clock.Pins.cap, .slice H1.Base.Limbo.a H1.Base.Limbo.len H1.Base.Limbo.cap, .slice H1.Base.Haz.a H1.Base.Haz.len H1.Base.Haz.cap, .slice H1.Cells.a H1.Cells.len H1.Cells.cap, .slice H1.Jobs.a H1.Jobs.len H1.Jobs.cap, .slice H1.Todo.a H1.Todo.len H1.Todo.cap, .slice H1.Log.a H1.Log.len H1.Log.cap, .int .i64 x.Serial], .agg #[.slice H2.Base.Mem.Heap.Bytes.a H2.Base.Mem.Heap.Bytes.len H2.Base.Mem.Heap.Bytes.cap, .slice H2.Base.Mem.Heap.Class.a H2.Base.Mem.Heap.Class.len H2.Base.Mem.Heap.Class.cap, .slice H2.Base.Mem.Lists.Global.a H2.Base.Mem.Lists.Global.len H2.Base.Mem.Lists.Global.cap, .slice H2.Base.Mem.Lists.Own.a H2.Base.Mem.Lists.Own.len H2.Base.Mem.Lists.Own.cap, .int .i64 x.Base.Clock.Epoch, .slice H2.Base.Clock.Pins.a H2.Base.Clock.Pins.len H2.Base.Clock.Pins.cap, .slice H2.Base.Limbo.a H2.Base.Limbo.len H2.Base.Limbo.cap, .slice H2.Base.Haz.a H2.Base.Haz.len H2.Base.Haz.cap, .slice H2.Cells.a H2.Cells.len H2.Cells.cap, .slice H2.Jobs.a H2.Jobs.len H2.Jobs.cap, .slice H2.Todo.a H2.Todo.len H2.Todo.cap, .slice H2.Log.a H2.Log.len H2.Log.cap, .int .i64 x.Serial]] w fun e w' => e = .returned (.bool true) ∧ Below w.heap.size w w' := by
  have hs0 : sizeBase x.Base ≤ 1073741824 := by unfold sizeShelf at hs; omega
  have hs1 : x.Cells.length ≤ 1073741824 := by unfold sizeShelf at hs; omega
  have hs2 : x.Jobs.length ≤ 1073741824 := by unfold sizeShelf at hs; omega
  have hs3 : szLL x.Todo ≤ 1073741824 := by unfold sizeShelf at hs; omega
  have hs4 : x.Log.length ≤ 1073741824 := by unfold sizeShelf at hs; omega
  clear hs
  have ba0 : Box ((w.alloc (.cells #[.slice H1.Base.Mem.Heap.Bytes.a H1.Base.Mem.Heap.Bytes.len H1.Base.Mem.Heap.Bytes.cap, .slice H1.Base.Mem.Heap.Class.a H1.Base.Mem.Heap.Class.len H1.Base.Mem.Heap.Class.cap, .slice H1.Base.Mem.Lists.Global.a H1.Base.Mem.Lists.Global.len H1.Base.Mem.Lists.Global.cap, .slice H1.Base.Mem.Lists.Own.a H1.Base.Mem.Lists.Own.len H1.Base.Mem.Lists.Own.cap, .int .i64 x.Base.Clock.Epoch, .slice H1.Base.Clock.Pins.a H1.Base.Clock.Pins.len H1.Base.Clock.Pins.cap, .slice H1.Base.Limbo.a H1.Base.Limbo.len H1.Base.Limbo.cap, .slice H1.Base.Haz.a H1.Base.Haz.len H1.Base.Haz.cap, .slice H1.Cells.a H1.Cells.len H1.Cells.cap, .slice H1.Jobs.a H1.Jobs.len H1.Jobs.cap, .slice H1.Todo.a H1.Todo.len H1.Todo.cap, .slice H1.Log.a H1.Log.len H1.Log.cap, .int .i64 x.Serial] 69)).alloc (.cells #[.slice H2.Base.Mem.Heap.Bytes.a H2.Base.Mem.Heap.Bytes.len H2.Base.Mem.Heap.Bytes.cap, .slice H2.Base.Mem.Heap.Class.a H2.Base.Mem.Heap.Class.len H2.Base.Mem.Heap.Class.cap, .slice H2.Base.Mem.Lists.Global.a H2.Base.Mem.Lists.Global.len H2.Base.Mem.Lists.Global.cap, .slice H2.Base.Mem.Lists.Own.a H2.Base.Mem.Lists.Own.len H2.Base.Mem.Lists.Own.cap, .int .i64 x.Base.Clock.Epoch, .slice H2.Base.Clock.Pins.a H2.Base.Clock.Pins.len H2.Base.Clock.Pins.cap, .slice H2.Base.Limbo.a H2.Base.Limbo.len H2.Base.Limbo.cap, .slice H2.Base.Haz.a H2.Base.Haz.len H2.Base.Haz.cap, .slice H2.Cells.a H2.Cells.len H2.Cells.cap, .slice H2.Jobs.a H2.Jobs.len H2.Jobs.cap, .slice H2.Todo.a H2.Todo.len H2.Todo.cap, .slice H2.Log.a H2.Log.len H2.Log.cap, .int .i64 x.Serial] 69)) w.heap.size [.slice H1.Base.Mem.Heap.Bytes.a H1.Base.Mem.Heap.Bytes.len H1.Base.Mem.Heap.Bytes.cap, .slice H1.Base.Mem.Heap.Class.a H1.Base.Mem.Heap.Class.len H1.Base.Mem.Heap.Class.cap, .slice H1.Base.Mem.Lists.Global.a H1.Base.Mem.Lists.Global.len H1.Base.Mem.Lists.Global.cap, .slice H1.Base.Mem.Lists.Own.a H1.Base.Mem.Lists.Own.len H1.Base.Mem.Lists.Own.cap, .int .i64 x.Base.Clock.Epoch, .slice H1.Base.Clock.Pins.a H1.Base.Clock.Pins.len H1.Base.Clock.Pins.cap, .slice H1.Base.Limbo.a H1.Base.Limbo.len H1.Base.Limbo.cap, .slice H1.Base.Haz.a H1.Base.Haz.len H1.Base.Haz.cap, .slice H1.Cells.a H1.Cells.len H1.Cells.cap, .slice H1.Jobs.a H1.Jobs.len H1.Jobs.cap, .slice H1.Todo.a H1.Todo.len H1.Todo.cap, .slice H1.Log.a H1.Log.len H1.Log.cap, .int .i64 x.Serial] := (Box.new w #[.slice H1.Base.Mem.Heap.Bytes.a H1.Base.Mem.Heap.Bytes.len H1.Base.Mem.Heap.Bytes.cap, .slice H1.Base.Mem.Heap.Class.a H1.Base.Mem.Heap.Class.len H1.Base.Mem.Heap.Class.cap, .slice H1.Base.Mem.Lists.Global.a H1.Base.Mem.Lists.Global.len H1.Base.Mem.Lists.Global.cap, .slice H1.Base.Mem.Lists.Own.a H1.Base.Mem.Lists.Own.len H1.Base.Mem.Lists.Own.cap, .int .i64 x.Base.Clock.Epoch, .slice H1.Base.Clock.Pins.a H1.Base.Clock.Pins.len H1.Base.Clock.Pins.cap, .slice H1.Base.Limbo.a H1.Base.Limbo.len H1.Base.Limbo.cap, .slice H1.Base.Haz.a H1.Base.Haz.len H1.Base.Haz.cap, .slice H1.Cells.a H1.Cells.len H1.Cells.cap, .slice H1.Jobs.a H1.Jobs.len H1.Jobs.cap, .slice H1.Todo.a H1.Todo.len H1.Todo.cap, .slice H1.Log.a H1.Log.len H1.Log.cap, .int .i64 x.Serial] 69).alloc _
  have bb0 : Box ((w.alloc (.cells #[.slice H1.Base.Mem.Heap.Bytes.a H1.Base.Mem.Heap.Bytes.len H1.Base.Mem.Heap.Bytes.cap, .slice H1.Base.Mem.Heap.Class.a H1.Base.Mem.Heap.Class.len H1.Base.Mem.Heap.Class.cap, .slice H1.Base.Mem.Lists.Global.a H1.Base.Mem.Lists.Global.len H1.Base.Mem.Lists.Global.cap, .slice H1.Base.Mem.Lists.Own.a H1.Base.Mem.Lists.Own.len H1.Base.Mem.Lists.Own.cap, .int .i64 x.Base.Clock.Epoch, .slice H1.Base.Clock.Pins.a H1.Base.Clock.Pins.len H1.Base.Clock.Pins.cap, .slice H1.Base.Limbo.a H1.Base.Limbo.len H1.Base.Limbo.cap, .slice H1.Base.Haz.a H1.Base.Haz.len H1.Base.Haz.cap, .slice H1.Cells.a H1.Cells.len H1.Cells.cap, .slice H1.Jobs.a H1.Jobs.len H1.Jobs.cap, .slice H1.Todo.a H1.Todo.len H1.Todo.cap, .slice H1.Log.a H1.Log.len H1.Log.cap, .int .i64 x.Serial] 69)).alloc (.cells #[.slice H2.Base.Mem.Heap.Bytes.a H2.Base.Mem.Heap.Bytes.len H2.Base.Mem.Heap.Bytes.cap, .slice H2.Base.Mem.Heap.Class.a H2.Base.Mem.Heap.Class.len H2.Base.Mem.Heap.Class.cap, .slice H2.Base.Mem.Lists.Global.a H2.Base.Mem.Lists.Global.len H2.Base.Mem.Lists.Global.cap, .slice H2.Base.Mem.Lists.Own.a H2.Base.Mem.Lists.Own.len H2.Base.Mem.Lists.Own.cap, .int .i64 x.Base.Clock.Epoch, .slice H2.Base.Clock.Pins.a H2.Base.Clock.Pins.len H2.Base.Clock.Pins.cap, .slice H2.Base.Limbo.a H2.Base.Limbo.len H2.Base.Limbo.cap, .slice H2.Base.Haz.a H2.Base.Haz.len H2.Base.Haz.cap, .slice H2.Cells.a H2.Cells.len H2.Cells.cap, .slice H2.Jobs.a H2.Jobs.len H2.Jobs.cap, .slice H2.Todo.a H2.Todo.len H2.Todo.cap, .slice H2.Log.a H2.Log.len H2.Log.cap, .int .i64 x.Serial] 69)) (w.heap.size + 1) [.slice H2.Base.Mem.Heap.Bytes.a H2.Base.Mem.Heap.Bytes.len H2.Base.Mem.Heap.Bytes.cap, .slice H2.Base.Mem.Heap.Class.a H2.Base.Mem.Heap.Class.len H2.Base.Mem.Heap.Class.cap, .slice H2.Base.Mem.Lists.Global.a H2.Base.Mem.Lists.Global.len H2.Base.Mem.Lists.Global.cap, .slice H2.Base.Mem.Lists.Own.a H2.Base.Mem.Lists.Own.len H2.Base.Mem.Lists.Own.cap, .int .i64 x.Base.Clock.Epoch, .slice H2.Base.Clock.Pins.a H2.Base.Clock.Pins.len H2.Base.Clock.Pins.cap, .slice H2.Base.Limbo.a H2.Base.Limbo.len H2.Base.Limbo.cap, .slice H2.Base.Haz.a H2.Base.Haz.len H2.Base.Haz.cap, .slice H2.Cells.a H2.Cells.len H2.Cells.cap, .slice H2.Jobs.a H2.Jobs.len H2.Jobs.cap, .slice H2.Todo.a H2.Todo.len H2.Todo.cap, .slice H2.Log.a H2.Log.len H2.Log.cap, .int .i64 x.Serial] := by have a := Box.new (w.alloc (.cells #[.slice H1.Base.Mem.Heap.Bytes.a H1.Base.Mem.Heap.Bytes.len H1.Base.Mem.Heap.Bytes.cap, .slice H1.Base.Mem.Heap.Class.a H1.Base.Mem.Heap.Class.len H1.Base.Mem.Heap.Class.cap, .slice H1.Base.Mem.Lists.Global.a H1.Base.Mem.Lists.Global.len H1.Base.Mem.Lists.Global.cap, .slice H1.Base.Mem.Lists.Own.a H1.Base.Mem.Lists.Own.len H1.Base.Mem.Lists.Own.cap, .int .i64 x.Base.Clock.Epoch, .slice H1.Base.Clock.Pins.a H1.Base.Clock.Pins.len H1.Base.Clock.Pins.cap, .slice H1.Base.Limbo.a H1.Base.Limbo.len H1.Base.Limbo.cap, .slice H1.Base.Haz.a H1.Base.Haz.len H1.Base.Haz.cap, .slice H1.Cells.a H1.Cells.len H1.Cells.cap, .slice H1.Jobs.a H1.Jobs.len H1.Jobs.cap, .slice H1.Todo.a H1.Todo.len H1.Todo.cap, .slice H1.Log.a H1.Log.len H1.Log.cap, .int .i64 x.Serial] 69)) #[.slice H2.Base.Mem.Heap.Bytes.a H2.Base.Mem.Heap.Bytes.len H2.Base.Mem.Heap.Bytes.cap, .slice H2.Base.Mem.Heap.Class.a H2.Base.Mem.Heap.Class.len H2.Base.Mem.Heap.Class.cap, .slice H2.Base.Mem.Lists.Global.a H2.Base.Mem.Lists.Global.len H2.Base.Mem.Lists.Global.cap, .slice H2.Base.Mem.Lists.Own.a H2.Base.Mem.Lists.Own.len H2.Base.Mem.Lists.Own.cap, .int .i64 x.Base.Clock.Epoch, .slice H2.Base.Clock.Pins.a H2.Base.Clock.Pins.len H2.Base.Clock.Pins.cap, .slice H2.Base.Limbo.a H2.Base.Limbo.len H2.Base.Limbo.cap, .slice H2.Base.Haz.a H2.Base.Haz.len H2.Base.Haz.cap, .slice H2.Cells.a H2.Cells.len H2.Cells.cap, .slice H2.Jobs.a H2.Jobs.len H2.Jobs.cap, .slice H2.Todo.a H2.Todo.len H2.Todo.cap, .slice H2.Log.a H2.Log.len H2.Log.cap, .int .i64 x.Serial] 69; simpa using a
  have hB0 : Below w.heap.size w ((w.alloc (.cells #[.slice H1.Base.Mem.Heap.Bytes.a H1.Base.Mem.Heap.Bytes.len H1.Base.Mem.Heap.Bytes.cap, .slice H1.Base.Mem.Heap.Class.a H1.Base.Mem.Heap.Class.len H1.Base.Mem.Heap.Class.cap, .slice H1.Base.Mem.Lists.Global.a H1.Base.Mem.Lists.Global.len H1.Base.Mem.Lists.Global.cap, .slice H1.Base.Mem.Lists.Own.a H1.Base.Mem.Lists.Own.len H1.Base.Mem.Lists.Own.cap, .int .i64 x.Base.Clock.Epoch, .slice H1.Base.Clock.Pins.a H1.Base.Clock.Pins.len H1.Base.Clock.Pins.cap, .slice H1.Base.Limbo.a H1.Base.Limbo.len H1.Base.Limbo.cap, .slice H1.Base.Haz.a H1.Base.Haz.len H1.Base.Haz.cap, .slice H1.Cells.a H1.Cells.len H1.Cells.cap, .slice H1.Jobs.a H1.Jobs.len H1.Jobs.cap, .slice H1.Todo.a H1.Todo.len H1.Todo.cap, .slice H1.Log.a H1.Log.len H1.Log.cap, .int .i64 x.Serial] 69)).alloc (.cells #[.slice H2.Base.Mem.Heap.Bytes.a H2.Base.Mem.Heap.Bytes.len H2.Base.Mem.Heap.Bytes.cap, .slice H2.Base.Mem.Heap.Class.a H2.Base.Mem.Heap.Class.len H2.Base.Mem.Heap.Class.cap, .slice H2.Base.Mem.Lists.Global.a H2.Base.Mem.Lists.Global.len H2.Base.Mem.Lists.Global.cap, .slice H2.Base.Mem.Lists.Own.a H2.Base.Mem.Lists.Own.len H2.Base.Mem.Lists.Own.cap, .int .i64 x.Base.Clock.Epoch, .slice H2.Base.Clock.Pins.a H2.Base.Clock.Pins.len H2.Base.Clock.Pins.cap, .slice H2.Base.Limbo.a H2.Base.Limbo.len H2.Base.Limbo.cap, .slice H2.Base.Haz.a H2.Base.Haz.len H2.Base.Haz.cap, .slice H2.Cells.a H2.Cells.len H2.Cells.cap, .slice H2.Jobs.a H2.Jobs.len H2.Jobs.cap, .slice H2.Todo.a H2.Todo.len H2.Todo.cap, .slice H2.Log.a H2.Log.len H2.Log.cap, .int .i64 x.Serial] 69)) := by repeat (first | exact Below.refl _ _ | refine Below.alloc ?_ (by simp <;> omega) _ | refine below_grow_of ?_ (by simp <;> omega) _ _ | refine Below.drew ?_ | refine below_drewN ?_ _)
  go_enter Tryz.func24, Tryz.ntmps24
  go_wp2_with fail
  refine (eqBase_ct _ H1.Base H2.Base x.Base (rdBase_up h1.Base hB0) (rdBase_up h2.Base hB0) hs0).mono ?_
  rintro e w1 ⟨rfl, hb0⟩
  have ba1 := ba0.below hb0
  have bb1 := bb0.below hb0
  have hB1 := hB0.trans (hb0.mono hB0.size)
  clear ba0 bb0 hb0 hB0
  have qa0 := ba1.cell 0 _ rfl
  have qb0 := bb1.cell 0 _ rfl
  have qa1 := ba1.cell 1 _ rfl
  have qb1 := bb1.cell 1 _ rfl
  have qa2 := ba1.cell 2 _ rfl
  have qb2 := bb1.cell 2 _ rfl
  have qa3 := ba1.cell 3 _ rfl
  have qb3 := bb1.cell 3 _ rfl
  have qa4 := ba1.cell 4 _ rfl
  have qb4 := bb1.cell 4 _ rfl
  have qa5 := ba1.cell 5 _ rfl
  have qb5 := bb1.cell 5 _ rfl
  have qa6 := ba1.cell 6 _ rfl
  have qb6 := bb1.cell 6 _ rfl
  have qa7 := ba1.cell 7 _ rfl
  have qb7 := bb1.cell 7 _ rfl
  have qa8 := ba1.cell 8 _ rfl
  have qb8 := bb1.cell 8 _ rfl
  have qa9 := ba1.cell 9 _ rfl
  have qb9 := bb1.cell 9 _ rfl
  have qa10 := ba1.cell 10 _ rfl
  have qb10 := bb1.cell 10 _ rfl
  have qa11 := ba1.cell 11 _ rfl
  have qb11 := bb1.cell 11 _ rfl
  have qa12 := ba1.cell 12 _ rfl
  have qb12 := bb1.cell 12 _ rfl
  go_wp2_with fail
  refine (eqIntS_w _ H1.Cells H2.Cells x.Cells (rd_up h1.Cells hB1) (rd_up h2.Cells hB1) hs1).mono ?_
  rintro e w2 ⟨rfl, hb1⟩
  have ba2 := ba1.below hb1
  have bb2 := bb1.below hb1
  have hB2 := hB1.trans (hb1.mono hB1.size)
  clear ba1 bb1 hb1 hB1 qa0 qb0 qa1 qb1 qa2 qb2 qa3 qb3 qa4 qb4 qa5 qb5 qa6 qb6 qa7 qb7 qa8 qb8 qa9 qb9 qa10 qb10 qa11 qb11 qa12 qb12
  have qa0 := ba2.cell 0 _ rfl
  have qb0 := bb2.cell 0 _ rfl
  have qa1 := ba2.cell 1 _ rfl
  have qb1 := bb2.cell 1 _ rfl
  have qa2 := ba2.cell 2 _ rfl
  have qb2 := bb2.cell 2 _ rfl
  have qa3 := ba2.cell 3 _ rfl
  have qb3 := bb2.cell 3 _ rfl
  have qa4 := ba2.cell 4 _ rfl
  have qb4 := bb2.cell 4 _ rfl
  have qa5 := ba2.cell 5 _ rfl
  have qb5 := bb2.cell 5 _ rfl
  have qa6 := ba2.cell 6 _ rfl
  have qb6 := bb2.cell 6 _ rfl
  have qa7 := ba2.cell 7 _ rfl
  have qb7 := bb2.cell 7 _ rfl
  have qa8 := ba2.cell 8 _ rfl
  have qb8 := bb2.cell 8 _ rfl
  have qa9 := ba2.cell 9 _ rfl
  have qb9 := bb2.cell 9 _ rfl
  have qa10 := ba2.cell 10 _ rfl
  have qb10 := bb2.cell 10 _ rfl
  have qa11 := ba2.cell 11 _ rfl
  have qb11 := bb2.cell 11 _ rfl
  have qa12 := ba2.cell 12 _ rfl
  have qb12 := bb2.cell 12 _ rfl
  go_wp2_with fail
  refine (eqJobS_w _ H1.Jobs H2.Jobs x.Jobs (rd_up h1.Jobs hB2) (rd_up h2.Jobs hB2) hs2).mono ?_
  rintro e w3 ⟨rfl, hb2⟩
  have ba3 := ba2.below hb2
  have bb3 := bb2.below hb2
  have hB3 := hB2.trans (hb2.mono hB2.size)
  clear ba2 bb2 hb2 hB2 qa0 qb0 qa1 qb1 qa2 qb2 qa3 qb3 qa4 qb4 qa5 qb5 qa6 qb6 qa7 qb7 qa8 qb8 qa9 qb9 qa10 qb10 qa11 qb11 qa12 qb12
  have qa0 := ba3.cell 0 _ rfl
  have qb0 := bb3.cell 0 _ rfl
  have qa1 := ba3.cell 1 _ rfl
  have qb1 := bb3.cell 1 _ rfl
  have qa2 := ba3.cell 2 _ rfl
  have qb2 := bb3.cell 2 _ rfl
  have qa3 := ba3.cell 3 _ rfl
  have qb3 := bb3.cell 3 _ rfl
  have qa4 := ba3.cell 4 _ rfl
  have qb4 := bb3.cell 4 _ rfl
  have qa5 := ba3.cell 5 _ rfl
  have qb5 := bb3.cell 5 _ rfl
  have qa6 := ba3.cell 6 _ rfl
  have qb6 := bb3.cell 6 _ rfl
  have qa7 := ba3.cell 7 _ rfl
  have qb7 := bb3.cell 7 _ rfl
  have qa8 := ba3.cell 8 _ rfl
  have qb8 := bb3.cell 8 _ rfl
  have qa9 := ba3.cell 9 _ rfl
  have qb9 := bb3.cell 9 _ rfl
  have qa10 := ba3.cell 10 _ rfl
  have qb10 := bb3.cell 10 _ rfl
  have qa11 := ba3.cell 11 _ rfl
  have qb11 := bb3.cell 11 _ rfl
  have qa12 := ba3.cell 12 _ rfl
  have qb12 := bb3.cell 12 _ rfl
  go_wp2_with fail
  refine (eqQueueS_w _ H1.Todo H1.TodoT H2.Todo H2.TodoT x.Todo (rdLL_up h1.Todo hB3) (rdLL_up h2.Todo hB3) hs3).mono ?_
  rintro e w4 ⟨rfl, hb3⟩
  have ba4 := ba3.below hb3
  have bb4 := bb3.below hb3
  have hB4 := hB3.trans (hb3.mono hB3.size)
  clear ba3 bb3 hb3 hB3 qa0 qb0 qa1 qb1 qa2 qb2 qa3 qb3 qa4 qb4 qa5 qb5 qa6 qb6 qa7 qb7 qa8 qb8 qa9 qb9 qa10 qb10 qa11 qb11 qa12 qb12
  have qa0 := ba4.cell 0 _ rfl
  have qb0 := bb4.cell 0 _ rfl
  have qa1 := ba4.cell 1 _ rfl
  have qb1 := bb4.cell 1 _ rfl
  have qa2 := ba4.cell 2 _ rfl
  have qb2 := bb4.cell 2 _ rfl
  have qa3 := ba4.cell 3 _ rfl
  have qb3 := bb4.cell 3 _ rfl
  have qa4 := ba4.cell 4 _ rfl
  have qb4 := bb4.cell 4 _ rfl
  have qa5 := ba4.cell 5 _ rfl
  have qb5 := bb4.cell 5 _ rfl
  have qa6 := ba4.cell 6 _ rfl
  have qb6 := bb4.cell 6 _ rfl
  have qa7 := ba4.cell 7 _ rfl
  have qb7 := bb4.cell 7 _ rfl
  have qa8 := ba4.cell 8 _ rfl
  have qb8 := bb4.cell 8 _ rfl
  have qa9 := ba4.cell 9 _ rfl
  have qb9 := bb4.cell 9 _ rfl
  have qa10 := ba4.cell 10 _ rfl
  have qb10 := bb4.cell 10 _ rfl
  have qa11 := ba4.cell 11 _ rfl
  have qb11 := bb4.cell 11 _ rfl
  have qa12 := ba4.cell 12 _ rfl
  have qb12 := bb4.cell 12 _ rfl
  go_wp2_with fail
  refine (eqEvS_w _ H1.Log H2.Log x.Log (rd_up h1.Log hB4) (rd_up h2.Log hB4) hs4).mono ?_
  rintro e w5 ⟨rfl, hb4⟩
  have ba5 := ba4.below hb4
  have bb5 := bb4.below hb4
  have hB5 := hB4.trans (hb4.mono hB4.size)
  clear ba4 bb4 hb4 hB4 qa0 qb0 qa1 qb1 qa2 qb2 qa3 qb3 qa4 qb4 qa5 qb5 qa6 qb6 qa7 qb7 qa8 qb8 qa9 qb9 qa10 qb10 qa11 qb11 qa12 qb12
  have qa0 := ba5.cell 0 _ rfl
  have qb0 := bb5.cell 0 _ rfl
  have qa1 := ba5.cell 1 _ rfl
  have qb1 := bb5.cell 1 _ rfl
  have qa2 := ba5.cell 2 _ rfl
  have qb2 := bb5.cell 2 _ rfl
  have qa3 := ba5.cell 3 _ rfl
  have qb3 := bb5.cell 3 _ rfl
  have qa4 := ba5.cell 4 _ rfl
  have qb4 := bb5.cell 4 _ rfl
  have qa5 := ba5.cell 5 _ rfl
  have qb5 := bb5.cell 5 _ rfl
  have qa6 := ba5.cell 6 _ rfl
  have qb6 := bb5.cell 6 _ rfl
  have qa7 := ba5.cell 7 _ rfl
  have qb7 := bb5.cell 7 _ rfl
  have qa8 := ba5.cell 8 _ rfl
  have qb8 := bb5.cell 8 _ rfl
  have qa9 := ba5.cell 9 _ rfl
  have qb9 := bb5.cell 9 _ rfl
  have qa10 := ba5.cell 10 _ rfl
  have qb10 := bb5.cell 10 _ rfl
  have qa11 := ba5.cell 11 _ rfl
  have qb11 := bb5.cell 11 _ rfl
  have qa12 := ba5.cell 12 _ rfl
  have qb12 := bb5.cell 12 _ rfl
  go_wp2
  go_ret
  exact ⟨rfl, hB5⟩

set_option maxRecDepth 100000 in
set_option maxHeartbeats 4000000 in
theorem szShelf_ct (w : World) (H : HShelf) (x : Shelf) (k : Nat) (h : RdShelf w w.heap.size H x) (hk : k ≤ 1073741824) :
    Calls Tryz.prog 20 #[.agg #[.slice H.Base.Mem.Heap.Bytes.a H.Base.Mem.Heap.Bytes.len H.Base.Mem.Heap.Bytes.cap, .slice H.Base.Mem.Heap.Class.a H.Base.Mem.Heap.Class.len H.Base.Mem.Heap.Class.cap, .slice H.Base.Mem.Lists.Global.a H.Base.Mem.Lists.Global.len H.Base.Mem.Lists.Global.cap, .slice H.Base.Mem.Lists.Own.a H.Base.Mem.Lists.Own.len H.Base.Mem.Lists.Own.cap, .int .i64 x.Base.Clock.Epoch, .slice H.Base.Clock.Pins.a H.Base.Clock.Pins.len H.Base.Clock.Pins.cap, .slice H.Base.Limbo.a H.Base.Limbo.len H.Base.Limbo.cap, .slice H.Base.Haz.a H.Base.Haz.len H.Base.Haz.cap, .slice H.Cells.a H.Cells.len H.Cells.cap, .slice H.Jobs.a H.Jobs.len H.Jobs.cap, .slice H.Todo.a H.Todo.len H.Todo.cap, .slice H.Log.a H.Log.len H.Log.cap, .int .i64 x.Serial], .int .i64 k] w fun e w' => e = .returned (.int .i64 (leftOf k (sizeShelf x))) ∧ Below w.heap.size w w' := by
  have ba0 : Box (w.alloc (.cells #[.slice H.Base.Mem.Heap.Bytes.a H.Base.Mem.Heap.Bytes.len H.Base.Mem.Heap.Bytes.cap, .slice H.Base.Mem.Heap.Class.a H.Base.Mem.Heap.Class.len H.Base.Mem.Heap.Class.cap, .slice H.Base.Mem.Lists.Global.a H.Base.Mem.Lists.Global.len H.Base.Mem.Lists.Global.cap, .slice H.Base.Mem.Lists.Own.a H.Base.Mem.Lists.Own.len H.Base.Mem.Lists.Own.cap, .int .i64 x.Base.Clock.Epoch, .slice H.Base.Clock.Pins.a H.Base.Clock.Pins.len H.Base.Clock.Pins.cap, .slice H.Base.Limbo.a H.Base.Limbo.len H.Base.Limbo.cap, .slice H.Base.Haz.a H.Base.Haz.len H.Base.Haz.cap, .slice H.Cells.a H.Cells.len H.Cells.cap, .slice H.Jobs.a H.Jobs.len H.Jobs.cap, .slice H.Todo.a H.Todo.len H.Todo.cap, .slice H.Log.a H.Log.len H.Log.cap, .int .i64 x.Serial] 62)) w.heap.size [.slice H.Base.Mem.Heap.Bytes.a H.Base.Mem.Heap.Bytes.len H.Base.Mem.Heap.Bytes.cap, .slice H.Base.Mem.Heap.Class.a H.Base.Mem.Heap.Class.len H.Base.Mem.Heap.Class.cap, .slice H.Base.Mem.Lists.Global.a H.Base.Mem.Lists.Global.len H.Base.Mem.Lists.Global.cap, .slice H.Base.Mem.Lists.Own.a H.Base.Mem.Lists.Own.len H.Base.Mem.Lists.Own.cap, .int .i64 x.Base.Clock.Epoch, .slice H.Base.Clock.Pins.a H.Base.Clock.Pins.len H.Base.Clock.Pins.cap, .slice H.Base.Limbo.a H.Base.Limbo.len H.Base.Limbo.cap, .slice H.Base.Haz.a H.Base.Haz.len H.Base.Haz.cap, .slice H.Cells.a H.Cells.len H.Cells.cap, .slice H.Jobs.a H.Jobs.len H.Jobs.cap, .slice H.Todo.a H.Todo.len H.Todo.cap, .slice H.Log.a H.Log.len H.Log.cap, .int .i64 x.Serial] := Box.new w #[.slice H.Base.Mem.Heap.Bytes.a H.Base.Mem.Heap.Bytes.len H.Base.Mem.Heap.Bytes.cap, .slice H.Base.Mem.Heap.Class.a H.Base.Mem.Heap.Class.len H.Base.Mem.Heap.Class.cap, .slice H.Base.Mem.Lists.Global.a H.Base.Mem.Lists.Global.len H.Base.Mem.Lists.Global.cap, .slice H.Base.Mem.Lists.Own.a H.Base.Mem.Lists.Own.len H.Base.Mem.Lists.Own.cap, .int .i64 x.Base.Clock.Epoch, .slice H.Base.Clock.Pins.a H.Base.Clock.Pins.len H.Base.Clock.Pins.cap, .slice H.Base.Limbo.a H.Base.Limbo.len H.Base.Limbo.cap, .slice H.Base.Haz.a H.Base.Haz.len H.Base.Haz.cap, .slice H.Cells.a H.Cells.len H.Cells.cap, .slice H.Jobs.a H.Jobs.len H.Jobs.cap, .slice H.Todo.a H.Todo.len H.Todo.cap, .slice H.Log.a H.Log.len H.Log.cap, .int .i64 x.Serial] 62
  have hB0 : Below w.heap.size w (w.alloc (.cells #[.slice H.Base.Mem.Heap.Bytes.a H.Base.Mem.Heap.Bytes.len H.Base.Mem.Heap.Bytes.cap, .slice H.Base.Mem.Heap.Class.a H.Base.Mem.Heap.Class.len H.Base.Mem.Heap.Class.cap, .slice H.Base.Mem.Lists.Global.a H.Base.Mem.Lists.Global.len H.Base.Mem.Lists.Global.cap, .slice H.Base.Mem.Lists.Own.a H.Base.Mem.Lists.Own.len H.Base.Mem.Lists.Own.cap, .int .i64 x.Base.Clock.Epoch, .slice H.Base.Clock.Pins.a H.Base.Clock.Pins.len H.Base.Clock.Pins.cap, .slice H.Base.Limbo.a H.Base.Limbo.len H.Base.Limbo.cap, .slice H.Base.Haz.a H.Base.Haz.len H.Base.Haz.cap, .slice H.Cells.a H.Cells.len H.Cells.cap, .slice H.Jobs.a H.Jobs.len H.Jobs.cap, .slice H.Todo.a H.Todo.len H.Todo.cap, .slice H.Log.a H.Log.len H.Log.cap, .int .i64 x.Serial] 62)) := by repeat (first | exact Below.refl _ _ | refine Below.alloc ?_ (by simp <;> omega) _ | refine below_grow_of ?_ (by simp <;> omega) _ _ | refine Below.drew ?_ | refine below_drewN ?_ _)
  have HE := Hid.mk_ (show sizeShelf x = sizeBase x.Base + x.Cells.length + x.Jobs.length + szLL x.Todo + x.Log.length from rfl)
  go_enter Tryz.func20, Tryz.ntmps20
  go_wp2_with fail
  refine (szBase_ct _ H.Base x.Base (k) (rdBase_up h.Base hB0) (by omega)).mono ?_
  rintro e w1 ⟨rfl, hb0⟩
  have ba1 := ba0.below hb0
  have hB1 := hB0.trans (hb0.mono hB0.size)
  clear ba0 hb0 hB0
  by_cases hh0 : sizeBase x.Base ≤ k
  case neg =>
    rw [leftOf_neg hh0]
    have HX := Hid.mk_ (show leftOf k (sizeShelf x) = -1 by rw [HE.out]; exact leftOf_neg (by omega))
    clear hh0
    go_wp2
    go_ret
    exact ⟨ret_i64 HX.out.symm, hB1⟩
  rw [leftOf_nat hh0]
  have hn0 : ¬ (((k - sizeBase x.Base : Nat) : Nat) : Int) < 0 := by omega
  have qa0 := ba1.cell 0 _ rfl
  have qa1 := ba1.cell 1 _ rfl
  have qa2 := ba1.cell 2 _ rfl
  have qa3 := ba1.cell 3 _ rfl
  have qa4 := ba1.cell 4 _ rfl
  have qa5 := ba1.cell 5 _ rfl
  have qa6 := ba1.cell 6 _ rfl
  have qa7 := ba1.cell 7 _ rfl
  have qa8 := ba1.cell 8 _ rfl
  have qa9 := ba1.cell 9 _ rfl
  have qa10 := ba1.cell 10 _ rfl
  have qa11 := ba1.cell 11 _ rfl
  have qa12 := ba1.cell 12 _ rfl
  go_wp2_with fail
  refine (szIntS_w _ H.Cells x.Cells (k - sizeBase x.Base) (rd_up h.Cells hB1) (by omega)).mono ?_
  rintro e w2 ⟨rfl, hb1⟩
  have ba2 := ba1.below hb1
  have hB2 := hB1.trans (hb1.mono hB1.size)
  clear ba1 hb1 hB1 qa0 qa1 qa2 qa3 qa4 qa5 qa6 qa7 qa8 qa9 qa10 qa11 qa12
  by_cases hh1 : x.Cells.length ≤ k - sizeBase x.Base
  case neg =>
    rw [leftOf_neg hh1]
    have HX := Hid.mk_ (show leftOf k (sizeShelf x) = -1 by rw [HE.out]; exact leftOf_neg (by omega))
    clear hh1
    go_wp2
    go_ret
    exact ⟨ret_i64 HX.out.symm, hB2⟩
  rw [leftOf_nat hh1]
  have hn1 : ¬ (((k - sizeBase x.Base - x.Cells.length : Nat) : Nat) : Int) < 0 := by omega
  have qa0 := ba2.cell 0 _ rfl
  have qa1 := ba2.cell 1 _ rfl
  have qa2 := ba2.cell 2 _ rfl
  have qa3 := ba2.cell 3 _ rfl
  have qa4 := ba2.cell 4 _ rfl
  have qa5 := ba2.cell 5 _ rfl
  have qa6 := ba2.cell 6 _ rfl
  have qa7 := ba2.cell 7 _ rfl
  have qa8 := ba2.cell 8 _ rfl
  have qa9 := ba2.cell 9 _ rfl
  have qa10 := ba2.cell 10 _ rfl
  have qa11 := ba2.cell 11 _ rfl
  have qa12 := ba2.cell 12 _ rfl
  go_wp2_with fail
  refine (szJobS_w _ H.Jobs x.Jobs (k - sizeBase x.Base - x.Cells.length) (rd_up h.Jobs hB2) (by omega)).mono ?_
  rintro e w3 ⟨rfl, hb2⟩
  have ba3 := ba2.below hb2
  have hB3 := hB2.trans (hb2.mono hB2.size)
  clear ba2 hb2 hB2 qa0 qa1 qa2 qa3 qa4 qa5 qa6 qa7 qa8 qa9 qa10 qa11 qa12
  by_cases hh2 : x.Jobs.length ≤ k - sizeBase x.Base - x.Cells.length
  case neg =>
    rw [leftOf_neg hh2]
    have HX := Hid.mk_ (show leftOf k (sizeShelf x) = -1 by rw [HE.out]; exact leftOf_neg (by omega))
    clear hh2
    go_wp2
    go_ret
    exact ⟨ret_i64 HX.out.symm, hB3⟩
  rw [leftOf_nat hh2]
  have hn2 : ¬ (((k - sizeBase x.Base - x.Cells.length - x.Jobs.length : Nat) : Nat) : Int) < 0 := by omega
  have qa0 := ba3.cell 0 _ rfl
  have qa1 := ba3.cell 1 _ rfl
  have qa2 := ba3.cell 2 _ rfl
  have qa3 := ba3.cell 3 _ rfl
  have qa4 := ba3.cell 4 _ rfl
  have qa5 := ba3.cell 5 _ rfl
  have qa6 := ba3.cell 6 _ rfl
  have qa7 := ba3.cell 7 _ rfl
  have qa8 := ba3.cell 8 _ rfl
  have qa9 := ba3.cell 9 _ rfl
  have qa10 := ba3.cell 10 _ rfl
  have qa11 := ba3.cell 11 _ rfl
  have qa12 := ba3.cell 12 _ rfl
  go_wp2_with fail
  refine (szQueueS_w _ H.Todo H.TodoT x.Todo (k - sizeBase x.Base - x.Cells.length - x.Jobs.length) (rdLL_up h.Todo hB3) (by omega)).mono ?_
  rintro e w4 ⟨rfl, hb3⟩
  have ba4 := ba3.below hb3
  have hB4 := hB3.trans (hb3.mono hB3.size)
  clear ba3 hb3 hB3 qa0 qa1 qa2 qa3 qa4 qa5 qa6 qa7 qa8 qa9 qa10 qa11 qa12
  by_cases hh3 : szLL x.Todo ≤ k - sizeBase x.Base - x.Cells.length - x.Jobs.length
  case neg =>
    rw [leftOf_neg hh3]
    have HX := Hid.mk_ (show leftOf k (sizeShelf x) = -1 by rw [HE.out]; exact leftOf_neg (by omega))
    clear hh3
    go_wp2
    go_ret
    exact ⟨ret_i64 HX.out.symm, hB4⟩
  rw [leftOf_nat hh3]
  have hn3 : ¬ (((k - sizeBase x.Base - x.Cells.length - x.Jobs.length - szLL x.Todo : Nat) : Nat) : Int) < 0 := by omega
  have qa0 := ba4.cell 0 _ rfl
  have qa1 := ba4.cell 1 _ rfl
  have qa2 := ba4.cell 2 _ rfl
  have qa3 := ba4.cell 3 _ rfl
  have qa4 := ba4.cell 4 _ rfl
  have qa5 := ba4.cell 5 _ rfl
  have qa6 := ba4.cell 6 _ rfl
  have qa7 := ba4.cell 7 _ rfl
  have qa8 := ba4.cell 8 _ rfl
  have qa9 := ba4.cell 9 _ rfl
  have qa10 := ba4.cell 10 _ rfl
  have qa11 := ba4.cell 11 _ rfl
  have qa12 := ba4.cell 12 _ rfl
  go_wp2_with fail
  refine (szEvS_w _ H.Log x.Log (k - sizeBase x.Base - x.Cells.length - x.Jobs.length - szLL x.Todo) (rd_up h.Log hB4) (by omega)).mono ?_
  rintro e w5 ⟨rfl, hb4⟩
  have ba5 := ba4.below hb4
  have hB5 := hB4.trans (hb4.mono hB4.size)
  clear ba4 hb4 hB4 qa0 qa1 qa2 qa3 qa4 qa5 qa6 qa7 qa8 qa9 qa10 qa11 qa12
  by_cases hh4 : x.Log.length ≤ k - sizeBase x.Base - x.Cells.length - x.Jobs.length - szLL x.Todo
  case neg =>
    rw [leftOf_neg hh4]
    have HX := Hid.mk_ (show leftOf k (sizeShelf x) = -1 by rw [HE.out]; exact leftOf_neg (by omega))
    clear hh4
    go_wp2
    go_ret
    exact ⟨ret_i64 HX.out.symm, hB5⟩
  rw [leftOf_nat hh4]
  have hn4 : ¬ (((k - sizeBase x.Base - x.Cells.length - x.Jobs.length - szLL x.Todo - x.Log.length : Nat) : Nat) : Int) < 0 := by omega
  have qa0 := ba5.cell 0 _ rfl
  have qa1 := ba5.cell 1 _ rfl
  have qa2 := ba5.cell 2 _ rfl
  have qa3 := ba5.cell 3 _ rfl
  have qa4 := ba5.cell 4 _ rfl
  have qa5 := ba5.cell 5 _ rfl
  have qa6 := ba5.cell 6 _ rfl
  have qa7 := ba5.cell 7 _ rfl
  have qa8 := ba5.cell 8 _ rfl
  have qa9 := ba5.cell 9 _ rfl
  have qa10 := ba5.cell 10 _ rfl
  have qa11 := ba5.cell 11 _ rfl
  have qa12 := ba5.cell 12 _ rfl
  have HX := Hid.mk_ (show leftOf k (sizeShelf x) = ((k - sizeBase x.Base - x.Cells.length - x.Jobs.length - szLL x.Todo - x.Log.length : Nat) : Int) by rw [HE.out, leftOf_nat (by omega)]; omega)
  go_wp2
  go_ret
  exact ⟨ret_i64 HX.out.symm, hB5⟩
