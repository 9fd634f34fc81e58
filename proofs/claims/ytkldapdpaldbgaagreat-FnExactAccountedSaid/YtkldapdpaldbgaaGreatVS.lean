/-
  Shelves: what a value reads as, and what the call owns.
-/
import Derived.Test.YtkldapdpaldbgaaGreatT
import Derived.Test.YtkldapdpaldbgaaGreatN
import Derived.Test.YtkldapdpaldbgaaGreatVB
namespace Go.Proofs.YtkldapdpaldbgaaGreat
open Go.RowKit
def mkOp (k : Int) : Op := ⟨k, k + 1, k + 1 + 1, k + 1 + 1 + 1⟩
def mkJob (k : Int) : Job := ⟨(k) % 3 == 0, ⟨k + 1, k + 1 + 1, k + 1 + 1 + 1, k + 1 + 1 + 1 + 1⟩, k + 1 + 1 + 1 + 1 + 1, k + 1 + 1 + 1 + 1 + 1 + 1, ⟨k + 1 + 1 + 1 + 1 + 1 + 1 + 1, k + 1 + 1 + 1 + 1 + 1 + 1 + 1 + 1, k + 1 + 1 + 1 + 1 + 1 + 1 + 1 + 1 + 1, k + 1 + 1 + 1 + 1 + 1 + 1 + 1 + 1 + 1 + 1, k + 1 + 1 + 1 + 1 + 1 + 1 + 1 + 1 + 1 + 1 + 1, k + 1 + 1 + 1 + 1 + 1 + 1 + 1 + 1 + 1 + 1 + 1 + 1, k + 1 + 1 + 1 + 1 + 1 + 1 + 1 + 1 + 1 + 1 + 1 + 1 + 1, k + 1 + 1 + 1 + 1 + 1 + 1 + 1 + 1 + 1 + 1 + 1 + 1 + 1 + 1, k + 1 + 1 + 1 + 1 + 1 + 1 + 1 + 1 + 1 + 1 + 1 + 1 + 1 + 1 + 1, (k + 1 + 1 + 1 + 1 + 1 + 1 + 1 + 1 + 1 + 1 + 1 + 1 + 1 + 1 + 1 + 1) % 3 == 0⟩, k + 1 + 1 + 1 + 1 + 1 + 1 + 1 + 1 + 1 + 1 + 1 + 1 + 1 + 1 + 1 + 1 + 1, k + 1 + 1 + 1 + 1 + 1 + 1 + 1 + 1 + 1 + 1 + 1 + 1 + 1 + 1 + 1 + 1 + 1 + 1, k + 1 + 1 + 1 + 1 + 1 + 1 + 1 + 1 + 1 + 1 + 1 + 1 + 1 + 1 + 1 + 1 + 1 + 1 + 1, k + 1 + 1 + 1 + 1 + 1 + 1 + 1 + 1 + 1 + 1 + 1 + 1 + 1 + 1 + 1 + 1 + 1 + 1 + 1 + 1⟩
def mkEv (k : Int) : Ev := ⟨k, k + 1, k + 1 + 1, k + 1 + 1 + 1, k + 1 + 1 + 1 + 1, k + 1 + 1 + 1 + 1 + 1, k + 1 + 1 + 1 + 1 + 1 + 1⟩
structure Shelf where
  Base : Base
  Cells : List Int
  Jobs : List Job
  Todo : List (List Op)
  Log : List Ev
  Serial : Int
structure HShelf where
  Base : HBase
  Cells : SV
  Jobs : SV
  Todo : SV
  TodoT : List SV
  Log : SV
@[reducible] def HShelf.val (H : HShelf) (x : Shelf) : Value := .agg #[.slice H.Base.Mem.Heap.Bytes.a H.Base.Mem.Heap.Bytes.len H.Base.Mem.Heap.Bytes.cap, .slice H.Base.Mem.Heap.Class.a H.Base.Mem.Heap.Class.len H.Base.Mem.Heap.Class.cap, .slice H.Base.Mem.Lists.Global.a H.Base.Mem.Lists.Global.len H.Base.Mem.Lists.Global.cap, .slice H.Base.Mem.Lists.Own.a H.Base.Mem.Lists.Own.len H.Base.Mem.Lists.Own.cap, .int .i64 x.Base.Clock.Epoch, .slice H.Base.Clock.Pins.a H.Base.Clock.Pins.len H.Base.Clock.Pins.cap, .slice H.Base.Limbo.a H.Base.Limbo.len H.Base.Limbo.cap, .slice H.Base.Haz.a H.Base.Haz.len H.Base.Haz.cap, .slice H.Cells.a H.Cells.len H.Cells.cap, .slice H.Jobs.a H.Jobs.len H.Jobs.cap, .slice H.Todo.a H.Todo.len H.Todo.cap, .slice H.Log.a H.Log.len H.Log.cap, .int .i64 x.Serial]
def HShelf.foot (H : HShelf) : List Nat := H.Base.foot ++ foot1 H.Cells.val ++ foot1 H.Jobs.val ++ foot2 H.Todo.val H.TodoT ++ foot1 H.Log.val
structure RdShelf (w : World) (B : Nat) (H : HShelf) (x : Shelf) : Prop where
  Base : RdBase w B H.Base x.Base
  Cells : RdL FI w B H.Cells.val x.Cells
  Jobs : RdL FJob w B H.Jobs.val x.Jobs
  Todo : RdLL FOp w B H.Todo.val H.TodoT x.Todo
  Log : RdL FEv w B H.Log.val x.Log
structure OwShelf (w : World) (H : HShelf) (x : Shelf) : Prop where
  Base : OwBase w H.Base x.Base
  Cells : OwL FI 3 w H.Cells.val x.Cells
  Jobs : OwL FJob 146 w H.Jobs.val x.Jobs
  Todo : OwLL FOp 142 182 w H.Todo.val H.TodoT x.Todo
  Log : OwL FEv 185 w H.Log.val x.Log
  d01 : ∀ g ∈ H.Base.foot, g ∉ foot1 H.Cells.val
  d02 : ∀ g ∈ H.Base.foot, g ∉ foot1 H.Jobs.val
  d03 : ∀ g ∈ H.Base.foot, g ∉ foot2 H.Todo.val H.TodoT
  d04 : ∀ g ∈ H.Base.foot, g ∉ foot1 H.Log.val
  d12 : ∀ g ∈ foot1 H.Cells.val, g ∉ foot1 H.Jobs.val
  d13 : ∀ g ∈ foot1 H.Cells.val, g ∉ foot2 H.Todo.val H.TodoT
  d14 : ∀ g ∈ foot1 H.Cells.val, g ∉ foot1 H.Log.val
  d23 : ∀ g ∈ foot1 H.Jobs.val, g ∉ foot2 H.Todo.val H.TodoT
  d24 : ∀ g ∈ foot1 H.Jobs.val, g ∉ foot1 H.Log.val
  d34 : ∀ g ∈ foot2 H.Todo.val H.TodoT, g ∉ foot1 H.Log.val
theorem RdShelf.keep {w w' : World} {B B' : Nat} {H : HShelf} {x : Shelf} (h : RdShelf w B H x) (hk : ∀ k, k < B → w'.heap[k]? = w.heap[k]?) (hB : B ≤ B') : RdShelf w' B' H x :=
  ⟨h.Base.keep hk hB, h.Cells.keep hk hB, h.Jobs.keep hk hB, h.Todo.keep hk hB, h.Log.keep hk hB⟩
theorem rdShelf_up {w w' : World} {H : HShelf} {x : Shelf} (h : RdShelf w w.heap.size H x) (hb : Below w.heap.size w w') : RdShelf w' w'.heap.size H x := h.keep hb.block hb.size
theorem HShelf.mem_foot {H : HShelf} {g : Nat} : g ∈ H.foot ↔ g ∈ H.Base.foot ∨ g ∈ foot1 H.Cells.val ∨ g ∈ foot1 H.Jobs.val ∨ g ∈ foot2 H.Todo.val H.TodoT ∨ g ∈ foot1 H.Log.val := by
  unfold HShelf.foot
  simp only [List.mem_append, or_assoc]
theorem OwShelf.lt {w : World} {H : HShelf} {x : Shelf} (h : OwShelf w H x) : ∀ g ∈ H.foot, g < w.heap.size := by
  intro g hg
  rcases HShelf.mem_foot.1 hg with hg | hg | hg | hg | hg
  · exact h.Base.lt g hg
  · exact (foot_lt h.Cells) g hg
  · exact (foot_lt h.Jobs) g hg
  · exact h.Todo.lt g hg
  · exact (foot_lt h.Log) g hg
theorem OwShelf.keep {w w' : World} {H : HShelf} {x : Shelf} (h : OwShelf w H x) (hk : ∀ g ∈ H.foot, w'.heap[g]? = w.heap[g]?) : OwShelf w' H x :=
  ⟨h.Base.keep (fun g hg => hk g (HShelf.mem_foot.2 (.inl hg))), h.Cells.keep (fun g hg => hk g (HShelf.mem_foot.2 ((.inr (.inl (mem_foot1.2 hg)))))), h.Jobs.keep (fun g hg => hk g (HShelf.mem_foot.2 ((.inr ((.inr (.inl (mem_foot1.2 hg)))))))), h.Todo.keep (fun g hg => hk g (HShelf.mem_foot.2 ((.inr ((.inr ((.inr (.inl hg))))))))), h.Log.keep (fun g hg => hk g (HShelf.mem_foot.2 ((.inr ((.inr ((.inr ((.inr (mem_foot1.2 hg))))))))))), h.d01, h.d02, h.d03, h.d04, h.d12, h.d13, h.d14, h.d23, h.d24, h.d34⟩
theorem OwShelf.chg {w w' : World} {H : HShelf} {x : Shelf} {F : List Nat} (h : OwShelf w H x) (hc : Chg F w w') (hd : ∀ g ∈ H.foot, g ∉ F) : OwShelf w' H x := h.keep fun g hg => hc.block g (h.lt g hg) (hd g hg)
theorem OwShelf.rd {w : World} {B : Nat} {H : HShelf} {x : Shelf} (h : OwShelf w H x) (hB : ∀ g ∈ H.foot, g < B) : RdShelf w B H x :=
  ⟨h.Base.rd (fun g hg => hB g (HShelf.mem_foot.2 (.inl hg))), h.Cells.rd (fun g hg => hB g (HShelf.mem_foot.2 ((.inr (.inl (mem_foot1.2 hg)))))), h.Jobs.rd (fun g hg => hB g (HShelf.mem_foot.2 ((.inr ((.inr (.inl (mem_foot1.2 hg)))))))), h.Todo.rd (fun g hg => hB g (HShelf.mem_foot.2 ((.inr ((.inr ((.inr (.inl hg))))))))), h.Log.rd (fun g hg => hB g (HShelf.mem_foot.2 ((.inr ((.inr ((.inr ((.inr (mem_foot1.2 hg)))))))))))⟩
theorem OwShelf.rd' {w : World} {H : HShelf} {x : Shelf} (h : OwShelf w H x) : RdShelf w w.heap.size H x := h.rd h.lt
def nMarkShelf (x : Shelf) : Nat := nMarkBase x.Base + x.Cells.length + x.Jobs.length * 21 + totLL x.Todo * 4 + x.Log.length * 7
def sizeShelf (x : Shelf) : Nat := sizeBase x.Base + x.Cells.length + x.Jobs.length + szLL x.Todo + x.Log.length
def markShelf (x : Shelf) (k : Int) : Shelf := { x with Base := markBase x.Base k, Cells := marks mkInt 1 x.Cells x.Cells.length (k + (nMarkBase x.Base : Nat)), Jobs := marks mkJob 21 x.Jobs x.Jobs.length (k + (nMarkBase x.Base : Nat) + (x.Cells.length : Nat)), Todo := markLL mkOp 4 x.Todo (k + (nMarkBase x.Base : Nat) + (x.Cells.length : Nat) + (x.Jobs.length * 21 : Nat)), Log := marks mkEv 7 x.Log x.Log.length (k + (nMarkBase x.Base : Nat) + (x.Cells.length : Nat) + (x.Jobs.length * 21 : Nat) + (totLL x.Todo * 4 : Nat)) }
end Go.Proofs.YtkldapdpaldbgaaGreat
