/-
  Clocks: what a value reads as, and what the call owns.
-/
import Derived.Test.YtkldapdpaldbgaaGreatT
import Derived.Test.YtkldapdpaldbgaaGreatN
namespace Go.Proofs.YtkldapdpaldbgaaGreat
open Go.RowKit
def mkPin (k : Int) : Pin := ⟨(k) % 3 == 0, k + 1, (k + 1 + 1) % 3 == 0, k + 1 + 1 + 1⟩
structure Clock where
  Epoch : Int
  Pins : List Pin
structure HClock where
  Pins : SV
@[reducible] def HClock.val (H : HClock) (x : Clock) : Value := .agg #[.int .i64 x.Epoch, .slice H.Pins.a H.Pins.len H.Pins.cap]
def HClock.foot (H : HClock) : List Nat := foot1 H.Pins.val
structure RdClock (w : World) (B : Nat) (H : HClock) (x : Clock) : Prop where
  Pins : RdL FPin w B H.Pins.val x.Pins
structure OwClock (w : World) (H : HClock) (x : Clock) : Prop where
  Pins : OwL FPin 165 w H.Pins.val x.Pins
theorem RdClock.keep {w w' : World} {B B' : Nat} {H : HClock} {x : Clock} (h : RdClock w B H x) (hk : ∀ k, k < B → w'.heap[k]? = w.heap[k]?) (hB : B ≤ B') : RdClock w' B' H x :=
  ⟨h.Pins.keep hk hB⟩
theorem rdClock_up {w w' : World} {H : HClock} {x : Clock} (h : RdClock w w.heap.size H x) (hb : Below w.heap.size w w') : RdClock w' w'.heap.size H x := h.keep hb.block hb.size
theorem HClock.mem_foot {H : HClock} {g : Nat} : g ∈ H.foot ↔ g ∈ foot1 H.Pins.val := Iff.rfl
theorem OwClock.lt {w : World} {H : HClock} {x : Clock} (h : OwClock w H x) : ∀ g ∈ H.foot, g < w.heap.size := by
  intro g hg
  exact (foot_lt h.Pins) g hg
theorem OwClock.keep {w w' : World} {H : HClock} {x : Clock} (h : OwClock w H x) (hk : ∀ g ∈ H.foot, w'.heap[g]? = w.heap[g]?) : OwClock w' H x :=
  ⟨h.Pins.keep (fun g hg => hk g (HClock.mem_foot.2 (mem_foot1.2 hg)))⟩
theorem OwClock.chg {w w' : World} {H : HClock} {x : Clock} {F : List Nat} (h : OwClock w H x) (hc : Chg F w w') (hd : ∀ g ∈ H.foot, g ∉ F) : OwClock w' H x := h.keep fun g hg => hc.block g (h.lt g hg) (hd g hg)
theorem OwClock.rd {w : World} {B : Nat} {H : HClock} {x : Clock} (h : OwClock w H x) (hB : ∀ g ∈ H.foot, g < B) : RdClock w B H x :=
  ⟨h.Pins.rd (fun g hg => hB g (HClock.mem_foot.2 (mem_foot1.2 hg)))⟩
theorem OwClock.rd' {w : World} {H : HClock} {x : Clock} (h : OwClock w H x) : RdClock w w.heap.size H x := h.rd h.lt
def nMarkClock (x : Clock) : Nat := x.Pins.length * 4
def sizeClock (x : Clock) : Nat := x.Pins.length
def markClock (x : Clock) (k : Int) : Clock := { x with Pins := marks mkPin 4 x.Pins x.Pins.length k }
end Go.Proofs.YtkldapdpaldbgaaGreat
