/-
  Heaps, lists, memories: what a value reads as, and what the call owns.
-/
import Derived.Test.YtkldapdpaldbgaaGreatT
import Derived.Test.YtkldapdpaldbgaaGreatN
import Derived.Test.YtkldapdpaldbgaaGreatJ
namespace Go.Proofs.YtkldapdpaldbgaaGreat
open Go.RowKit
structure Heap where
  Bytes : List Int
  Class : List Int
structure HHeap where
  Bytes : SV
  Class : SV
@[reducible] def HHeap.val (H : HHeap) (_x : Heap) : Value := .agg #[.slice H.Bytes.a H.Bytes.len H.Bytes.cap, .slice H.Class.a H.Class.len H.Class.cap]
def HHeap.foot (H : HHeap) : List Nat := foot1 H.Bytes.val ++ foot1 H.Class.val
structure RdHeap (w : World) (B : Nat) (H : HHeap) (x : Heap) : Prop where
  Bytes : RdL FI w B H.Bytes.val x.Bytes
  Class : RdL FI w B H.Class.val x.Class
structure OwHeap (w : World) (H : HHeap) (x : Heap) : Prop where
  Bytes : OwL FI 3 w H.Bytes.val x.Bytes
  Class : OwL FI 3 w H.Class.val x.Class
  d01 : ∀ g ∈ foot1 H.Bytes.val, g ∉ foot1 H.Class.val
theorem RdHeap.keep {w w' : World} {B B' : Nat} {H : HHeap} {x : Heap} (h : RdHeap w B H x) (hk : ∀ k, k < B → w'.heap[k]? = w.heap[k]?) (hB : B ≤ B') : RdHeap w' B' H x :=
  ⟨h.Bytes.keep hk hB, h.Class.keep hk hB⟩
theorem rdHeap_up {w w' : World} {H : HHeap} {x : Heap} (h : RdHeap w w.heap.size H x) (hb : Below w.heap.size w w') : RdHeap w' w'.heap.size H x := h.keep hb.block hb.size
theorem HHeap.mem_foot {H : HHeap} {g : Nat} : g ∈ H.foot ↔ g ∈ foot1 H.Bytes.val ∨ g ∈ foot1 H.Class.val := by
  unfold HHeap.foot
  simp only [List.mem_append]
theorem OwHeap.lt {w : World} {H : HHeap} {x : Heap} (h : OwHeap w H x) : ∀ g ∈ H.foot, g < w.heap.size := by
  intro g hg
  rcases HHeap.mem_foot.1 hg with hg | hg
  · exact (foot_lt h.Bytes) g hg
  · exact (foot_lt h.Class) g hg
theorem OwHeap.keep {w w' : World} {H : HHeap} {x : Heap} (h : OwHeap w H x) (hk : ∀ g ∈ H.foot, w'.heap[g]? = w.heap[g]?) : OwHeap w' H x :=
  ⟨h.Bytes.keep (fun g hg => hk g (HHeap.mem_foot.2 (.inl (mem_foot1.2 hg)))), h.Class.keep (fun g hg => hk g (HHeap.mem_foot.2 ((.inr (mem_foot1.2 hg))))), h.d01⟩
theorem OwHeap.chg {w w' : World} {H : HHeap} {x : Heap} {F : List Nat} (h : OwHeap w H x) (hc : Chg F w w') (hd : ∀ g ∈ H.foot, g ∉ F) : OwHeap w' H x := h.keep fun g hg => hc.block g (h.lt g hg) (hd g hg)
theorem OwHeap.rd {w : World} {B : Nat} {H : HHeap} {x : Heap} (h : OwHeap w H x) (hB : ∀ g ∈ H.foot, g < B) : RdHeap w B H x :=
  ⟨h.Bytes.rd (fun g hg => hB g (HHeap.mem_foot.2 (.inl (mem_foot1.2 hg)))), h.Class.rd (fun g hg => hB g (HHeap.mem_foot.2 ((.inr (mem_foot1.2 hg)))))⟩
theorem OwHeap.rd' {w : World} {H : HHeap} {x : Heap} (h : OwHeap w H x) : RdHeap w w.heap.size H x := h.rd h.lt
def nMarkHeap (x : Heap) : Nat := x.Bytes.length + x.Class.length
def sizeHeap (x : Heap) : Nat := x.Bytes.length + x.Class.length
def markHeap (x : Heap) (k : Int) : Heap := { x with Bytes := marks mkInt 1 x.Bytes x.Bytes.length k, Class := marks mkInt 1 x.Class x.Class.length (k + (x.Bytes.length : Nat)) }
structure Lists where
  Global : List (List Int)
  Own : List (List Int)
structure HLists where
  Global : SV
  GlobalT : List SV
  Own : SV
  OwnT : List SV
@[reducible] def HLists.val (H : HLists) (_x : Lists) : Value := .agg #[.slice H.Global.a H.Global.len H.Global.cap, .slice H.Own.a H.Own.len H.Own.cap]
def HLists.foot (H : HLists) : List Nat := foot2 H.Global.val H.GlobalT ++ foot2 H.Own.val H.OwnT
structure RdLists (w : World) (B : Nat) (H : HLists) (x : Lists) : Prop where
  Global : RdLL FI w B H.Global.val H.GlobalT x.Global
  Own : RdLL FI w B H.Own.val H.OwnT x.Own
structure OwLists (w : World) (H : HLists) (x : Lists) : Prop where
  Global : OwLL FI 3 163 w H.Global.val H.GlobalT x.Global
  Own : OwLL FI 3 163 w H.Own.val H.OwnT x.Own
  d01 : ∀ g ∈ foot2 H.Global.val H.GlobalT, g ∉ foot2 H.Own.val H.OwnT
theorem RdLists.keep {w w' : World} {B B' : Nat} {H : HLists} {x : Lists} (h : RdLists w B H x) (hk : ∀ k, k < B → w'.heap[k]? = w.heap[k]?) (hB : B ≤ B') : RdLists w' B' H x :=
  ⟨h.Global.keep hk hB, h.Own.keep hk hB⟩
theorem rdLists_up {w w' : World} {H : HLists} {x : Lists} (h : RdLists w w.heap.size H x) (hb : Below w.heap.size w w') : RdLists w' w'.heap.size H x := h.keep hb.block hb.size
theorem HLists.mem_foot {H : HLists} {g : Nat} : g ∈ H.foot ↔ g ∈ foot2 H.Global.val H.GlobalT ∨ g ∈ foot2 H.Own.val H.OwnT := by
  unfold HLists.foot
  simp only [List.mem_append]
theorem OwLists.lt {w : World} {H : HLists} {x : Lists} (h : OwLists w H x) : ∀ g ∈ H.foot, g < w.heap.size := by
  intro g hg
  rcases HLists.mem_foot.1 hg with hg | hg
  · exact h.Global.lt g hg
  · exact h.Own.lt g hg
theorem OwLists.keep {w w' : World} {H : HLists} {x : Lists} (h : OwLists w H x) (hk : ∀ g ∈ H.foot, w'.heap[g]? = w.heap[g]?) : OwLists w' H x :=
  ⟨h.Global.keep (fun g hg => hk g (HLists.mem_foot.2 (.inl hg))), h.Own.keep (fun g hg => hk g (HLists.mem_foot.2 ((.inr hg)))), h.d01⟩
theorem OwLists.chg {w w' : World} {H : HLists} {x : Lists} {F : List Nat} (h : OwLists w H x) (hc : Chg F w w') (hd : ∀ g ∈ H.foot, g ∉ F) : OwLists w' H x := h.keep fun g hg => hc.block g (h.lt g hg) (hd g hg)
theorem OwLists.rd {w : World} {B : Nat} {H : HLists} {x : Lists} (h : OwLists w H x) (hB : ∀ g ∈ H.foot, g < B) : RdLists w B H x :=
  ⟨h.Global.rd (fun g hg => hB g (HLists.mem_foot.2 (.inl hg))), h.Own.rd (fun g hg => hB g (HLists.mem_foot.2 ((.inr hg))))⟩
theorem OwLists.rd' {w : World} {H : HLists} {x : Lists} (h : OwLists w H x) : RdLists w w.heap.size H x := h.rd h.lt
def nMarkLists (x : Lists) : Nat := totLL x.Global + totLL x.Own
def sizeLists (x : Lists) : Nat := szLL x.Global + szLL x.Own
def markLists (x : Lists) (k : Int) : Lists := { x with Global := markLL mkInt 1 x.Global k, Own := markLL mkInt 1 x.Own (k + (totLL x.Global : Nat)) }
structure Mem where
  Heap : Heap
  Lists : Lists
structure HMem where
  Heap : HHeap
  Lists : HLists
@[reducible] def HMem.val (H : HMem) (_x : Mem) : Value := .agg #[.slice H.Heap.Bytes.a H.Heap.Bytes.len H.Heap.Bytes.cap, .slice H.Heap.Class.a H.Heap.Class.len H.Heap.Class.cap, .slice H.Lists.Global.a H.Lists.Global.len H.Lists.Global.cap, .slice H.Lists.Own.a H.Lists.Own.len H.Lists.Own.cap]
def HMem.foot (H : HMem) : List Nat := H.Heap.foot ++ H.Lists.foot
structure RdMem (w : World) (B : Nat) (H : HMem) (x : Mem) : Prop where
  Heap : RdHeap w B H.Heap x.Heap
  Lists : RdLists w B H.Lists x.Lists
structure OwMem (w : World) (H : HMem) (x : Mem) : Prop where
  Heap : OwHeap w H.Heap x.Heap
  Lists : OwLists w H.Lists x.Lists
  d01 : ∀ g ∈ H.Heap.foot, g ∉ H.Lists.foot
theorem RdMem.keep {w w' : World} {B B' : Nat} {H : HMem} {x : Mem} (h : RdMem w B H x) (hk : ∀ k, k < B → w'.heap[k]? = w.heap[k]?) (hB : B ≤ B') : RdMem w' B' H x :=
  ⟨h.Heap.keep hk hB, h.Lists.keep hk hB⟩
theorem rdMem_up {w w' : World} {H : HMem} {x : Mem} (h : RdMem w w.heap.size H x) (hb : Below w.heap.size w w') : RdMem w' w'.heap.size H x := h.keep hb.block hb.size
theorem HMem.mem_foot {H : HMem} {g : Nat} : g ∈ H.foot ↔ g ∈ H.Heap.foot ∨ g ∈ H.Lists.foot := by
  unfold HMem.foot
  simp only [List.mem_append]
theorem OwMem.lt {w : World} {H : HMem} {x : Mem} (h : OwMem w H x) : ∀ g ∈ H.foot, g < w.heap.size := by
  intro g hg
  rcases HMem.mem_foot.1 hg with hg | hg
  · exact h.Heap.lt g hg
  · exact h.Lists.lt g hg
theorem OwMem.keep {w w' : World} {H : HMem} {x : Mem} (h : OwMem w H x) (hk : ∀ g ∈ H.foot, w'.heap[g]? = w.heap[g]?) : OwMem w' H x :=
  ⟨h.Heap.keep (fun g hg => hk g (HMem.mem_foot.2 (.inl hg))), h.Lists.keep (fun g hg => hk g (HMem.mem_foot.2 ((.inr hg)))), h.d01⟩
theorem OwMem.chg {w w' : World} {H : HMem} {x : Mem} {F : List Nat} (h : OwMem w H x) (hc : Chg F w w') (hd : ∀ g ∈ H.foot, g ∉ F) : OwMem w' H x := h.keep fun g hg => hc.block g (h.lt g hg) (hd g hg)
theorem OwMem.rd {w : World} {B : Nat} {H : HMem} {x : Mem} (h : OwMem w H x) (hB : ∀ g ∈ H.foot, g < B) : RdMem w B H x :=
  ⟨h.Heap.rd (fun g hg => hB g (HMem.mem_foot.2 (.inl hg))), h.Lists.rd (fun g hg => hB g (HMem.mem_foot.2 ((.inr hg))))⟩
theorem OwMem.rd' {w : World} {H : HMem} {x : Mem} (h : OwMem w H x) : RdMem w w.heap.size H x := h.rd h.lt
def nMarkMem (x : Mem) : Nat := nMarkHeap x.Heap + nMarkLists x.Lists
def sizeMem (x : Mem) : Nat := sizeHeap x.Heap + sizeLists x.Lists
def markMem (x : Mem) (k : Int) : Mem := { x with Heap := markHeap x.Heap k, Lists := markLists x.Lists (k + (nMarkHeap x.Heap : Nat)) }
end Go.Proofs.YtkldapdpaldbgaaGreat
