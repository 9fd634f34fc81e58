/-
  Words for the laws on shelves.
-/
import Derived.Test.YtkldapdpaldbgaaGreatT
import Derived.Test.YtkldapdpaldbgaaGreatL
import Derived.Deep.QuietTactic
import Derived.BigQuiet
import Derived.Deep.LoopGhost
import Derived.Deep.RegionHeld3
import Derived.Test.YtkldapdpaldbgaaGreatN
import Derived.Test.YtkldapdpaldbgaaGreatA
import Derived.WalkSpells
import Derived.Laws.Cover3
import Derived.Test.YtkldapdpaldbgaaGreatWS
import Derived.Test.YtkldapdpaldbgaaGreatB3
namespace Go.Proofs.YtkldapdpaldbgaaGreat
open Go.RowKit
theorem up2 {w1 w2 : World} {o : Obj} {g i : Nat} {u : Value} (hb : Below (w1.alloc o).heap.size (w1.alloc o) w2) (hg : g < w1.heap.size) (h : w1.cell? ⟨g, i, none⟩ = some u) : w2.cell? ⟨g, i, none⟩ = some u := cell_up hb (by simp; omega) ((cell_old w1 o g i hg).trans h)

theorem below_step {B : Nat} {w0 w w' : World} {o : Obj} (hB : Below B w0 w) (hb : Below (w.alloc o).heap.size (w.alloc o) w') (h : B ≤ w.heap.size) : Below B w0 w' := (hB.alloc h o).trans (hb.mono (by simp; omega))
theorem below_step0 {B : Nat} {w0 w w' : World} (hB : Below B w0 w) (hb : Below w.heap.size w w') (h : B ≤ w.heap.size) : Below B w0 w' := hB.trans (hb.mono h)
theorem new_cell {w w' : World} {cs : Array Value} {t : TypeId} {j : Nat} {v : Value} (hb : Below (w.alloc (.cells cs t)).heap.size (w.alloc (.cells cs t)) w') (h : cs[j]? = some v) : w'.cell? ⟨w.heap.size, j, none⟩ = some v := by
  refine cell_up hb (by simp) ?_
  rw [cell_of_row _ _ _ _ _ _ (heap_alloc_new w _)]
  exact h
theorem OwL.step {α : Type} {T : FT α} {e : TypeId} {w w' : World} {o : Obj} {v : Value} {l : List α} (h : OwL T e w v l) (hb : Below (w.alloc o).heap.size (w.alloc o) w') : OwL T e w' v l := (h.alloc_ o).keep (fun g hg => hb.block g (foot_lt (h.alloc_ o) g (mem_foot1.2 hg)))
theorem OwL.step0 {α : Type} {T : FT α} {e : TypeId} {w w' : World} {v : Value} {l : List α} (h : OwL T e w v l) (hb : Below w.heap.size w w') : OwL T e w' v l := h.keep (fun g hg => hb.block g (foot_lt h g (mem_foot1.2 hg)))
theorem OwLL.step {α : Type} {T : FT α} {e E : TypeId} {w w' : World} {o : Obj} {v : Value} {s : List SV} {l : List (List α)} (h : OwLL T e E w v s l) (hb : Below (w.alloc o).heap.size (w.alloc o) w') : OwLL T e E w' v s l := (h.alloc_ o).keep (fun g hg => hb.block g ((h.alloc_ o).lt g hg))
theorem OwLL.step0 {α : Type} {T : FT α} {e E : TypeId} {w w' : World} {v : Value} {s : List SV} {l : List (List α)} (h : OwLL T e E w v s l) (hb : Below w.heap.size w w') : OwLL T e E w' v s l := h.keep (fun g hg => hb.block g (h.lt g hg))

theorem undrew {w w' : World} (hb : Below w.drew.heap.size w.drew w') : Below w.heap.size w w' := ⟨hb.os, hb.tape, hb.output, hb.size, hb.block⟩
theorem fcdrew {w : World} {F : List Nat} (h : ∀ g ∈ F, w.drew.heap.size ≤ g) : ∀ g ∈ F, w.heap.size ≤ g := h
theorem lt_step {w w' : World} {o : Obj} {a : Nat} (z : a < w.heap.size) (hb : Below (w.alloc o).heap.size (w.alloc o) w') : a < w'.heap.size := by
  have := hb.size
  simp at this
  omega
theorem lt_step0 {w w' : World} {a : Nat} (z : a < w.heap.size) (hb : Below w.heap.size w w') : a < w'.heap.size := Nat.lt_of_lt_of_le z hb.size
theorem new_lt {w w' : World} {o : Obj} (hb : Below (w.alloc o).heap.size (w.alloc o) w') : w.heap.size < w'.heap.size := by
  have := hb.size
  simp at this
  omega

theorem OwHeap.alloc_ {w : World} {H : HHeap} {x : Heap} (h : OwHeap w H x) (o : Obj) : OwHeap (w.alloc o) H x := h.keep fun g hg => Below.heap_alloc w o g (h.lt g hg)
theorem OwHeap.step {w w' : World} {o : Obj} {H : HHeap} {x : Heap} (h : OwHeap w H x) (hb : Below (w.alloc o).heap.size (w.alloc o) w') : OwHeap w' H x := (h.alloc_ o).keep (fun g hg => hb.block g ((h.alloc_ o).lt g hg))
theorem OwHeap.step0 {w w' : World} {H : HHeap} {x : Heap} (h : OwHeap w H x) (hb : Below w.heap.size w w') : OwHeap w' H x := h.keep (fun g hg => hb.block g (h.lt g hg))

theorem OwLists.alloc_ {w : World} {H : HLists} {x : Lists} (h : OwLists w H x) (o : Obj) : OwLists (w.alloc o) H x := h.keep fun g hg => Below.heap_alloc w o g (h.lt g hg)
theorem OwLists.step {w w' : World} {o : Obj} {H : HLists} {x : Lists} (h : OwLists w H x) (hb : Below (w.alloc o).heap.size (w.alloc o) w') : OwLists w' H x := (h.alloc_ o).keep (fun g hg => hb.block g ((h.alloc_ o).lt g hg))
theorem OwLists.step0 {w w' : World} {H : HLists} {x : Lists} (h : OwLists w H x) (hb : Below w.heap.size w w') : OwLists w' H x := h.keep (fun g hg => hb.block g (h.lt g hg))

theorem OwMem.alloc_ {w : World} {H : HMem} {x : Mem} (h : OwMem w H x) (o : Obj) : OwMem (w.alloc o) H x := h.keep fun g hg => Below.heap_alloc w o g (h.lt g hg)
theorem OwMem.step {w w' : World} {o : Obj} {H : HMem} {x : Mem} (h : OwMem w H x) (hb : Below (w.alloc o).heap.size (w.alloc o) w') : OwMem w' H x := (h.alloc_ o).keep (fun g hg => hb.block g ((h.alloc_ o).lt g hg))
theorem OwMem.step0 {w w' : World} {H : HMem} {x : Mem} (h : OwMem w H x) (hb : Below w.heap.size w w') : OwMem w' H x := h.keep (fun g hg => hb.block g (h.lt g hg))

theorem OwClock.alloc_ {w : World} {H : HClock} {x : Clock} (h : OwClock w H x) (o : Obj) : OwClock (w.alloc o) H x := h.keep fun g hg => Below.heap_alloc w o g (h.lt g hg)
theorem OwClock.step {w w' : World} {o : Obj} {H : HClock} {x : Clock} (h : OwClock w H x) (hb : Below (w.alloc o).heap.size (w.alloc o) w') : OwClock w' H x := (h.alloc_ o).keep (fun g hg => hb.block g ((h.alloc_ o).lt g hg))
theorem OwClock.step0 {w w' : World} {H : HClock} {x : Clock} (h : OwClock w H x) (hb : Below w.heap.size w w') : OwClock w' H x := h.keep (fun g hg => hb.block g (h.lt g hg))

theorem OwBase.alloc_ {w : World} {H : HBase} {x : Base} (h : OwBase w H x) (o : Obj) : OwBase (w.alloc o) H x := h.keep fun g hg => Below.heap_alloc w o g (h.lt g hg)
theorem OwBase.step {w w' : World} {o : Obj} {H : HBase} {x : Base} (h : OwBase w H x) (hb : Below (w.alloc o).heap.size (w.alloc o) w') : OwBase w' H x := (h.alloc_ o).keep (fun g hg => hb.block g ((h.alloc_ o).lt g hg))
theorem OwBase.step0 {w w' : World} {H : HBase} {x : Base} (h : OwBase w H x) (hb : Below w.heap.size w w') : OwBase w' H x := h.keep (fun g hg => hb.block g (h.lt g hg))

theorem OwShelf.alloc_ {w : World} {H : HShelf} {x : Shelf} (h : OwShelf w H x) (o : Obj) : OwShelf (w.alloc o) H x := h.keep fun g hg => Below.heap_alloc w o g (h.lt g hg)
theorem OwShelf.step {w w' : World} {o : Obj} {H : HShelf} {x : Shelf} (h : OwShelf w H x) (hb : Below (w.alloc o).heap.size (w.alloc o) w') : OwShelf w' H x := (h.alloc_ o).keep (fun g hg => hb.block g ((h.alloc_ o).lt g hg))
theorem OwShelf.step0 {w w' : World} {H : HShelf} {x : Shelf} (h : OwShelf w H x) (hb : Below w.heap.size w w') : OwShelf w' H x := h.keep (fun g hg => hb.block g (h.lt g hg))

theorem nMark_size_Heap (x : Heap) : nMarkHeap x ≤ sizeHeap x := Nat.le_refl _
theorem nMark_size_Lists (x : Lists) : nMarkLists x ≤ sizeLists x := Nat.add_le_add (Nat.le_add_left _ _) (Nat.le_add_left _ _)
theorem nMark_size_Mem (x : Mem) : nMarkMem x ≤ sizeMem x := Nat.add_le_add (nMark_size_Heap _) (nMark_size_Lists _)
theorem size_mem_lists {x : Mem} {k : Nat} (h : sizeMem x ≤ k) : szLL x.Lists.Global ≤ k ∧ szLL x.Lists.Own ≤ k := by unfold sizeMem sizeLists at h; omega

theorem nMark_size_Base (x : Base) : nMarkBase x ≤ 4 * sizeBase x := by
  have h1 := nMark_size_Mem x.Mem
  have h2 : nMarkClock x.Clock = x.Clock.Pins.length * 4 := rfl
  have h3 : sizeClock x.Clock = x.Clock.Pins.length := rfl
  have h4 : totLL x.Limbo ≤ szLL x.Limbo := Nat.le_add_left _ _
  unfold nMarkBase sizeBase
  omega

theorem nMark_size_Shelf (x : Shelf) : nMarkShelf x ≤ 21 * sizeShelf x := by
  have h1 := nMark_size_Base x.Base
  have h4 : totLL x.Todo ≤ szLL x.Todo := Nat.le_add_left _ _
  unfold nMarkShelf sizeShelf
  omega

theorem size_base_lls {x : Base} {k : Nat} (h : sizeBase x ≤ k) : szLL x.Limbo ≤ k ∧ szLL x.Mem.Lists.Global ≤ k ∧ szLL x.Mem.Lists.Own ≤ k := by unfold sizeBase sizeMem sizeLists at h; omega

theorem size_shelf_base {x : Shelf} {k : Nat} (h : sizeShelf x ≤ k) : sizeBase x.Base ≤ k := by unfold sizeShelf at h; omega
end Go.Proofs.YtkldapdpaldbgaaGreat
