/-
  Bases: what a value reads as, and what the call owns.
-/
import Derived.Test.YtkldapdpaldbgaaGreatT
import Derived.Test.YtkldapdpaldbgaaGreatN
import Derived.Test.YtkldapdpaldbgaaGreatVC
import Derived.Test.YtkldapdpaldbgaaGreatVM
namespace Go.Proofs.YtkldapdpaldbgaaGreat
open Go.RowKit
def mkLRow (k : Int) : LRow := ⟨k, k + 1⟩
structure Base where
  Mem : Mem
  Clock : Clock
  Limbo : List (List LRow)
  Haz : List Int
structure HBase where
  Mem : HMem
  Clock : HClock
  Limbo : SV
  LimboT : List SV
  Haz : SV
@[reducible] def HBase.val (H : HBase) (x : Base) : Value := .agg #[.slice H.Mem.Heap.Bytes.a H.Mem.Heap.Bytes.len H.Mem.Heap.Bytes.cap, .slice H.Mem.Heap.Class.a H.Mem.Heap.Class.len H.Mem.Heap.Class.cap, .slice H.Mem.Lists.Global.a H.Mem.Lists.Global.len H.Mem.Lists.Global.cap, .slice H.Mem.Lists.Own.a H.Mem.Lists.Own.len H.Mem.Lists.Own.cap, .int .i64 x.Clock.Epoch, .slice H.Clock.Pins.a H.Clock.Pins.len H.Clock.Pins.cap, .slice H.Limbo.a H.Limbo.len H.Limbo.cap, .slice H.Haz.a H.Haz.len H.Haz.cap]
def HBase.foot (H : HBase) : List Nat := H.Mem.foot ++ H.Clock.foot ++ foot2 H.Limbo.val H.LimboT ++ foot1 H.Haz.val
structure RdBase (w : World) (B : Nat) (H : HBase) (x : Base) : Prop where
  Mem : RdMem w B H.Mem x.Mem
  Clock : RdClock w B H.Clock x.Clock
  Limbo : RdLL FLRow w B H.Limbo.val H.LimboT x.Limbo
  Haz : RdL FI w B H.Haz.val x.Haz
structure OwBase (w : World) (H : HBase) (x : Base) : Prop where
  Mem : OwMem w H.Mem x.Mem
  Clock : OwClock w H.Clock x.Clock
  Limbo : OwLL FLRow 99 129 w H.Limbo.val H.LimboT x.Limbo
  Haz : OwL FI 3 w H.Haz.val x.Haz
  d01 : ∀ g ∈ H.Mem.foot, g ∉ H.Clock.foot
  d02 : ∀ g ∈ H.Mem.foot, g ∉ foot2 H.Limbo.val H.LimboT
  d03 : ∀ g ∈ H.Mem.foot, g ∉ foot1 H.Haz.val
  d12 : ∀ g ∈ H.Clock.foot, g ∉ foot2 H.Limbo.val H.LimboT
  d13 : ∀ g ∈ H.Clock.foot, g ∉ foot1 H.Haz.val
  d23 : ∀ g ∈ foot2 H.Limbo.val H.LimboT, g ∉ foot1 H.Haz.val
theorem RdBase.keep {w w' : World} {B B' : Nat} {H : HBase} {x : Base} (h : RdBase w B H x) (hk : ∀ k, k < B → w'.heap[k]? = w.heap[k]?) (hB : B ≤ B') : RdBase w' B' H x :=
  ⟨h.Mem.keep hk hB, h.Clock.keep hk hB, h.Limbo.keep hk hB, h.Haz.keep hk hB⟩
theorem rdBase_up {w w' : World} {H : HBase} {x : Base} (h : RdBase w w.heap.size H x) (hb : Below w.heap.size w w') : RdBase w' w'.heap.size H x := h.keep hb.block hb.size
theorem HBase.mem_foot {H : HBase} {g : Nat} : g ∈ H.foot ↔ g ∈ H.Mem.foot ∨ g ∈ H.Clock.foot ∨ g ∈ foot2 H.Limbo.val H.LimboT ∨ g ∈ foot1 H.Haz.val := by
  unfold HBase.foot
  simp only [List.mem_append, or_assoc]
theorem OwBase.lt {w : World} {H : HBase} {x : Base} (h : OwBase w H x) : ∀ g ∈ H.foot, g < w.heap.size := by
  intro g hg
  rcases HBase.mem_foot.1 hg with hg | hg | hg | hg
  · exact h.Mem.lt g hg
  · exact h.Clock.lt g hg
  · exact h.Limbo.lt g hg
  · exact (foot_lt h.Haz) g hg
theorem OwBase.keep {w w' : World} {H : HBase} {x : Base} (h : OwBase w H x) (hk : ∀ g ∈ H.foot, w'.heap[g]? = w.heap[g]?) : OwBase w' H x :=
  ⟨h.Mem.keep (fun g hg => hk g (HBase.mem_foot.2 (.inl hg))), h.Clock.keep (fun g hg => hk g (HBase.mem_foot.2 ((.inr (.inl hg))))), h.Limbo.keep (fun g hg => hk g (HBase.mem_foot.2 ((.inr ((.inr (.inl hg))))))), h.Haz.keep (fun g hg => hk g (HBase.mem_foot.2 ((.inr ((.inr ((.inr (mem_foot1.2 hg))))))))), h.d01, h.d02, h.d03, h.d12, h.d13, h.d23⟩
theorem OwBase.chg {w w' : World} {H : HBase} {x : Base} {F : List Nat} (h : OwBase w H x) (hc : Chg F w w') (hd : ∀ g ∈ H.foot, g ∉ F) : OwBase w' H x := h.keep fun g hg => hc.block g (h.lt g hg) (hd g hg)
theorem OwBase.rd {w : World} {B : Nat} {H : HBase} {x : Base} (h : OwBase w H x) (hB : ∀ g ∈ H.foot, g < B) : RdBase w B H x :=
  ⟨h.Mem.rd (fun g hg => hB g (HBase.mem_foot.2 (.inl hg))), h.Clock.rd (fun g hg => hB g (HBase.mem_foot.2 ((.inr (.inl hg))))), h.Limbo.rd (fun g hg => hB g (HBase.mem_foot.2 ((.inr ((.inr (.inl hg))))))), h.Haz.rd (fun g hg => hB g (HBase.mem_foot.2 ((.inr ((.inr ((.inr (mem_foot1.2 hg)))))))))⟩
theorem OwBase.rd' {w : World} {H : HBase} {x : Base} (h : OwBase w H x) : RdBase w w.heap.size H x := h.rd h.lt
def nMarkBase (x : Base) : Nat := nMarkMem x.Mem + nMarkClock x.Clock + totLL x.Limbo * 2 + x.Haz.length
def sizeBase (x : Base) : Nat := sizeMem x.Mem + sizeClock x.Clock + szLL x.Limbo + x.Haz.length
def markBase (x : Base) (k : Int) : Base := { x with Mem := markMem x.Mem k, Clock := markClock x.Clock (k + (nMarkMem x.Mem : Nat)), Limbo := markLL mkLRow 2 x.Limbo (k + (nMarkMem x.Mem : Nat) + (nMarkClock x.Clock : Nat)), Haz := marks mkInt 1 x.Haz x.Haz.length (k + (nMarkMem x.Mem : Nat) + (nMarkClock x.Clock : Nat) + (totLL x.Limbo * 2 : Nat)) }
end Go.Proofs.YtkldapdpaldbgaaGreat
