/-
  Bases: compared, made, measured, marked.
-/
import Derived.Test.YtkldapdpaldbgaaGreatT
import Derived.Test.YtkldapdpaldbgaaGreatL
import Derived.Deep.QuietTactic
import Derived.BigQuiet
import Derived.Deep.LoopGhost
import Derived.Deep.RegionHeld3
import Derived.Test.YtkldapdpaldbgaaGreatN
import Derived.Test.YtkldapdpaldbgaaGreatA
import Derived.WalkSpells
import Derived.Laws.Cover3
import Derived.Test.YtkldapdpaldbgaaGreatEP
import Derived.Test.YtkldapdpaldbgaaGreatEB
import Derived.Test.YtkldapdpaldbgaaGreatWM
namespace Go.Proofs.YtkldapdpaldbgaaGreat
open Go.RowKit

set_option maxRecDepth 100000 in
set_option maxHeartbeats 4000000 in
theorem toBase_ct (w : World) (H : HBase) (x : Base) (h : RdBase w w.heap.size H x) (hs : sizeBase x ≤ 1048576) :
    Calls Tryz.prog 28 #[.agg #[.slice H.Mem.Heap.Bytes.a H.Mem.Heap.Bytes.len H.Mem.Heap.Bytes.cap, .slice H.Mem.Heap.Class.a H.Mem.Heap.Class.len H.Mem.Heap.Class.cap, .slice H.Mem.Lists.Global.a H.Mem.Lists.Global.len H.Mem.Lists.Global.cap, .slice H.Mem.Lists.Own.a H.Mem.Lists.Own.len H.Mem.Lists.Own.cap, .int .i64 x.Clock.Epoch, .slice H.Clock.Pins.a H.Clock.Pins.len H.Clock.Pins.cap, .slice H.Limbo.a H.Limbo.len H.Limbo.cap, .slice H.Haz.a H.Haz.len H.Haz.cap]] w fun e w' => ∃ H' : HBase, e = .returned (H'.val x) ∧ OwBase w' H' x ∧ (∀ g ∈ H'.foot, w.heap.size ≤ g) ∧ Below w.heap.size w w' := by
  have hs0 : sizeMem x.Mem ≤ 1048576 := by unfold sizeBase at hs; omega
  have hs1 : sizeClock x.Clock ≤ 1048576 := by unfold sizeBase at hs; omega
  have hs2 : szLL x.Limbo ≤ 1048576 := by unfold sizeBase at hs; omega
  have hs3 : x.Haz.length ≤ 1048576 := by unfold sizeBase at hs; omega
  clear hs
  have ba0 : Box (((w.alloc (.cells #[.slice H.Mem.Heap.Bytes.a H.Mem.Heap.Bytes.len H.Mem.Heap.Bytes.cap, .slice H.Mem.Heap.Class.a H.Mem.Heap.Class.len H.Mem.Heap.Class.cap, .slice H.Mem.Lists.Global.a H.Mem.Lists.Global.len H.Mem.Lists.Global.cap, .slice H.Mem.Lists.Own.a H.Mem.Lists.Own.len H.Mem.Lists.Own.cap, .int .i64 x.Clock.Epoch, .slice H.Clock.Pins.a H.Clock.Pins.len H.Clock.Pins.cap, .slice H.Limbo.a H.Limbo.len H.Limbo.cap, .slice H.Haz.a H.Haz.len H.Haz.cap] 57)).alloc (.cells #[.slice none 0 0, .slice none 0 0, .slice none 0 0, .slice none 0 0, .int .i64 0, .slice none 0 0, .slice none 0 0, .slice none 0 0] 37)).alloc (.cells #[.slice none 0 0, .slice none 0 0, .slice none 0 0, .slice none 0 0, .int .i64 0, .slice none 0 0, .slice none 0 0, .slice none 0 0] 37)) w.heap.size [.slice H.Mem.Heap.Bytes.a H.Mem.Heap.Bytes.len H.Mem.Heap.Bytes.cap, .slice H.Mem.Heap.Class.a H.Mem.Heap.Class.len H.Mem.Heap.Class.cap, .slice H.Mem.Lists.Global.a H.Mem.Lists.Global.len H.Mem.Lists.Global.cap, .slice H.Mem.Lists.Own.a H.Mem.Lists.Own.len H.Mem.Lists.Own.cap, .int .i64 x.Clock.Epoch, .slice H.Clock.Pins.a H.Clock.Pins.len H.Clock.Pins.cap, .slice H.Limbo.a H.Limbo.len H.Limbo.cap, .slice H.Haz.a H.Haz.len H.Haz.cap] := ((Box.new w #[.slice H.Mem.Heap.Bytes.a H.Mem.Heap.Bytes.len H.Mem.Heap.Bytes.cap, .slice H.Mem.Heap.Class.a H.Mem.Heap.Class.len H.Mem.Heap.Class.cap, .slice H.Mem.Lists.Global.a H.Mem.Lists.Global.len H.Mem.Lists.Global.cap, .slice H.Mem.Lists.Own.a H.Mem.Lists.Own.len H.Mem.Lists.Own.cap, .int .i64 x.Clock.Epoch, .slice H.Clock.Pins.a H.Clock.Pins.len H.Clock.Pins.cap, .slice H.Limbo.a H.Limbo.len H.Limbo.cap, .slice H.Haz.a H.Haz.len H.Haz.cap] 57).alloc _).alloc _
  have br0 : Box (((w.alloc (.cells #[.slice H.Mem.Heap.Bytes.a H.Mem.Heap.Bytes.len H.Mem.Heap.Bytes.cap, .slice H.Mem.Heap.Class.a H.Mem.Heap.Class.len H.Mem.Heap.Class.cap, .slice H.Mem.Lists.Global.a H.Mem.Lists.Global.len H.Mem.Lists.Global.cap, .slice H.Mem.Lists.Own.a H.Mem.Lists.Own.len H.Mem.Lists.Own.cap, .int .i64 x.Clock.Epoch, .slice H.Clock.Pins.a H.Clock.Pins.len H.Clock.Pins.cap, .slice H.Limbo.a H.Limbo.len H.Limbo.cap, .slice H.Haz.a H.Haz.len H.Haz.cap] 57)).alloc (.cells #[.slice none 0 0, .slice none 0 0, .slice none 0 0, .slice none 0 0, .int .i64 0, .slice none 0 0, .slice none 0 0, .slice none 0 0] 37)).alloc (.cells #[.slice none 0 0, .slice none 0 0, .slice none 0 0, .slice none 0 0, .int .i64 0, .slice none 0 0, .slice none 0 0, .slice none 0 0] 37)) (w.heap.size + 1) [.slice none 0 0, .slice none 0 0, .slice none 0 0, .slice none 0 0, .int .i64 0, .slice none 0 0, .slice none 0 0, .slice none 0 0] := by have a := (Box.new (w.alloc (.cells #[.slice H.Mem.Heap.Bytes.a H.Mem.Heap.Bytes.len H.Mem.Heap.Bytes.cap, .slice H.Mem.Heap.Class.a H.Mem.Heap.Class.len H.Mem.Heap.Class.cap, .slice H.Mem.Lists.Global.a H.Mem.Lists.Global.len H.Mem.Lists.Global.cap, .slice H.Mem.Lists.Own.a H.Mem.Lists.Own.len H.Mem.Lists.Own.cap, .int .i64 x.Clock.Epoch, .slice H.Clock.Pins.a H.Clock.Pins.len H.Clock.Pins.cap, .slice H.Limbo.a H.Limbo.len H.Limbo.cap, .slice H.Haz.a H.Haz.len H.Haz.cap] 57)) #[.slice none 0 0, .slice none 0 0, .slice none 0 0, .slice none 0 0, .int .i64 0, .slice none 0 0, .slice none 0 0, .slice none 0 0] 37).alloc (.cells #[.slice none 0 0, .slice none 0 0, .slice none 0 0, .slice none 0 0, .int .i64 0, .slice none 0 0, .slice none 0 0, .slice none 0 0] 37); simpa using a
  have bo0 : Box (((w.alloc (.cells #[.slice H.Mem.Heap.Bytes.a H.Mem.Heap.Bytes.len H.Mem.Heap.Bytes.cap, .slice H.Mem.Heap.Class.a H.Mem.Heap.Class.len H.Mem.Heap.Class.cap, .slice H.Mem.Lists.Global.a H.Mem.Lists.Global.len H.Mem.Lists.Global.cap, .slice H.Mem.Lists.Own.a H.Mem.Lists.Own.len H.Mem.Lists.Own.cap, .int .i64 x.Clock.Epoch, .slice H.Clock.Pins.a H.Clock.Pins.len H.Clock.Pins.cap, .slice H.Limbo.a H.Limbo.len H.Limbo.cap, .slice H.Haz.a H.Haz.len H.Haz.cap] 57)).alloc (.cells #[.slice none 0 0, .slice none 0 0, .slice none 0 0, .slice none 0 0, .int .i64 0, .slice none 0 0, .slice none 0 0, .slice none 0 0] 37)).alloc (.cells #[.slice none 0 0, .slice none 0 0, .slice none 0 0, .slice none 0 0, .int .i64 0, .slice none 0 0, .slice none 0 0, .slice none 0 0] 37)) (w.heap.size + 1 + 1) [.slice none 0 0, .slice none 0 0, .slice none 0 0, .slice none 0 0, .int .i64 0, .slice none 0 0, .slice none 0 0, .slice none 0 0] := by have a := Box.new ((w.alloc (.cells #[.slice H.Mem.Heap.Bytes.a H.Mem.Heap.Bytes.len H.Mem.Heap.Bytes.cap, .slice H.Mem.Heap.Class.a H.Mem.Heap.Class.len H.Mem.Heap.Class.cap, .slice H.Mem.Lists.Global.a H.Mem.Lists.Global.len H.Mem.Lists.Global.cap, .slice H.Mem.Lists.Own.a H.Mem.Lists.Own.len H.Mem.Lists.Own.cap, .int .i64 x.Clock.Epoch, .slice H.Clock.Pins.a H.Clock.Pins.len H.Clock.Pins.cap, .slice H.Limbo.a H.Limbo.len H.Limbo.cap, .slice H.Haz.a H.Haz.len H.Haz.cap] 57)).alloc (.cells #[.slice none 0 0, .slice none 0 0, .slice none 0 0, .slice none 0 0, .int .i64 0, .slice none 0 0, .slice none 0 0, .slice none 0 0] 37)) #[.slice none 0 0, .slice none 0 0, .slice none 0 0, .slice none 0 0, .int .i64 0, .slice none 0 0, .slice none 0 0, .slice none 0 0] 37; simpa using a
  have hB0 : Below w.heap.size w (((w.alloc (.cells #[.slice H.Mem.Heap.Bytes.a H.Mem.Heap.Bytes.len H.Mem.Heap.Bytes.cap, .slice H.Mem.Heap.Class.a H.Mem.Heap.Class.len H.Mem.Heap.Class.cap, .slice H.Mem.Lists.Global.a H.Mem.Lists.Global.len H.Mem.Lists.Global.cap, .slice H.Mem.Lists.Own.a H.Mem.Lists.Own.len H.Mem.Lists.Own.cap, .int .i64 x.Clock.Epoch, .slice H.Clock.Pins.a H.Clock.Pins.len H.Clock.Pins.cap, .slice H.Limbo.a H.Limbo.len H.Limbo.cap, .slice H.Haz.a H.Haz.len H.Haz.cap] 57)).alloc (.cells #[.slice none 0 0, .slice none 0 0, .slice none 0 0, .slice none 0 0, .int .i64 0, .slice none 0 0, .slice none 0 0, .slice none 0 0] 37)).alloc (.cells #[.slice none 0 0, .slice none 0 0, .slice none 0 0, .slice none 0 0, .int .i64 0, .slice none 0 0, .slice none 0 0, .slice none 0 0] 37)) := by repeat (first | exact Below.refl _ _ | refine Below.alloc ?_ (by simp <;> omega) _ | refine below_grow_of ?_ (by simp <;> omega) _ _ | refine Below.drew ?_ | refine below_drewN ?_ _)
  go_enter Tryz.func28, Tryz.ntmps28
  go_wp2_with fail
  refine (toMem_ct _ H.Mem x.Mem (rdMem_up h.Mem (hB0.trans (Chg.below (F := [(w.heap.size + 1 + 1)]) (by (repeat (with_reducible refine Chg.set_ ?_ (by simp) _)); with_reducible exact Chg.refl _ _) (by first | exact hB0.size | omega) (by intro g hg; have := List.mem_singleton.1 hg; omega)))) hs0).mono ?_
  rintro e w1 ⟨K0, rfl, ho0, hf0, hb0⟩
  have hf0' : ∀ g ∈ K0.foot, (w.heap.size + 1 + 1) < g := fun g hg => by have a := hf0 g hg; have b := bo0.lt; (try simp at a b); omega
  clear hf0
  have ba1 : Box w1 w.heap.size [.slice H.Mem.Heap.Bytes.a H.Mem.Heap.Bytes.len H.Mem.Heap.Bytes.cap, .slice H.Mem.Heap.Class.a H.Mem.Heap.Class.len H.Mem.Heap.Class.cap, .slice H.Mem.Lists.Global.a H.Mem.Lists.Global.len H.Mem.Lists.Global.cap, .slice H.Mem.Lists.Own.a H.Mem.Lists.Own.len H.Mem.Lists.Own.cap, .int .i64 x.Clock.Epoch, .slice H.Clock.Pins.a H.Clock.Pins.len H.Clock.Pins.cap, .slice H.Limbo.a H.Limbo.len H.Limbo.cap, .slice H.Haz.a H.Haz.len H.Haz.cap] := Box.below (ba0.chg (F := [(w.heap.size + 1 + 1)]) (by (repeat (with_reducible refine Chg.set_ ?_ (by simp) _)); with_reducible exact Chg.refl _ _) (by simp <;> omega)) hb0
  have br1 : Box w1 (w.heap.size + 1) [.slice none 0 0, .slice none 0 0, .slice none 0 0, .slice none 0 0, .int .i64 0, .slice none 0 0, .slice none 0 0, .slice none 0 0] := Box.below (br0.chg (F := [(w.heap.size + 1 + 1)]) (by (repeat (with_reducible refine Chg.set_ ?_ (by simp) _)); with_reducible exact Chg.refl _ _) (by simp <;> omega)) hb0
  have bo1 : Box w1 (w.heap.size + 1 + 1) [.slice none 0 0, .slice none 0 0, .slice none 0 0, .slice none 0 0, .int .i64 0, .slice none 0 0, .slice none 0 0, .slice none 0 0] := Box.below bo0 hb0
  have hC1 : Chg [(w.heap.size + 1 + 1)] (((w.alloc (.cells #[.slice H.Mem.Heap.Bytes.a H.Mem.Heap.Bytes.len H.Mem.Heap.Bytes.cap, .slice H.Mem.Heap.Class.a H.Mem.Heap.Class.len H.Mem.Heap.Class.cap, .slice H.Mem.Lists.Global.a H.Mem.Lists.Global.len H.Mem.Lists.Global.cap, .slice H.Mem.Lists.Own.a H.Mem.Lists.Own.len H.Mem.Lists.Own.cap, .int .i64 x.Clock.Epoch, .slice H.Clock.Pins.a H.Clock.Pins.len H.Clock.Pins.cap, .slice H.Limbo.a H.Limbo.len H.Limbo.cap, .slice H.Haz.a H.Haz.len H.Haz.cap] 57)).alloc (.cells #[.slice none 0 0, .slice none 0 0, .slice none 0 0, .slice none 0 0, .int .i64 0, .slice none 0 0, .slice none 0 0, .slice none 0 0] 37)).alloc (.cells #[.slice none 0 0, .slice none 0 0, .slice none 0 0, .slice none 0 0, .int .i64 0, .slice none 0 0, .slice none 0 0, .slice none 0 0] 37)) w1 := Chg.trans (by (repeat (with_reducible refine Chg.set_ ?_ (by simp) _)); with_reducible exact Chg.refl _ _) (Chg.of_below hb0)
  have hB1 : Below w.heap.size w w1 := hB0.trans (hC1.below hB0.size (by intro g hg; have := List.mem_singleton.1 hg; omega))
  clear hb0 ba0 br0 bo0 hB0 hC1
  have qa0 := ba1.cell 0 _ rfl
  have qa1 := ba1.cell 1 _ rfl
  have qa2 := ba1.cell 2 _ rfl
  have qa3 := ba1.cell 3 _ rfl
  have qa4 := ba1.cell 4 _ rfl
  have qa5 := ba1.cell 5 _ rfl
  have qa6 := ba1.cell 6 _ rfl
  have qa7 := ba1.cell 7 _ rfl
  have qo0 := bo1.cell 0 _ rfl
  have qo1 := bo1.cell 1 _ rfl
  have qo2 := bo1.cell 2 _ rfl
  have qo3 := bo1.cell 3 _ rfl
  have qo4 := bo1.cell 4 _ rfl
  have qo5 := bo1.cell 5 _ rfl
  have qo6 := bo1.cell 6 _ rfl
  have qo7 := bo1.cell 7 _ rfl
  have qf := bo1.fro
  have ql1 := ba1.lt
  have ql2 := bo1.lt
  go_wp2_with fail
  refine (toClock_ct _ H.Clock x.Clock (rdClock_up h.Clock (hB1.trans (Chg.below (F := [(w.heap.size + 1 + 1)]) (by (repeat (with_reducible refine Chg.set_ ?_ (by simp) _)); with_reducible exact Chg.refl _ _) (by first | exact hB1.size | omega) (by intro g hg; have := List.mem_singleton.1 hg; omega)))) hs1).mono ?_
  rintro e w2 ⟨K1, rfl, ho1, hf1, hb1⟩
  clear qa0 qa1 qa2 qa3 qa4 qa5 qa6 qa7 qo0 qo1 qo2 qo3 qo4 qo5 qo6 qo7 qf ql1 ql2
  have hd0_1 : ∀ g ∈ K0.foot, g ∉ K1.foot := fun g hg hm => by have a := hf1 g hm; have b := ho0.lt g hg; (try simp at a); omega
  have hf1' : ∀ g ∈ K1.foot, (w.heap.size + 1 + 1) < g := fun g hg => by have a := hf1 g hg; have b := bo1.lt; (try simp at a b); omega
  clear hf1
  have ba2 : Box w2 w.heap.size [.slice H.Mem.Heap.Bytes.a H.Mem.Heap.Bytes.len H.Mem.Heap.Bytes.cap, .slice H.Mem.Heap.Class.a H.Mem.Heap.Class.len H.Mem.Heap.Class.cap, .slice H.Mem.Lists.Global.a H.Mem.Lists.Global.len H.Mem.Lists.Global.cap, .slice H.Mem.Lists.Own.a H.Mem.Lists.Own.len H.Mem.Lists.Own.cap, .int .i64 x.Clock.Epoch, .slice H.Clock.Pins.a H.Clock.Pins.len H.Clock.Pins.cap, .slice H.Limbo.a H.Limbo.len H.Limbo.cap, .slice H.Haz.a H.Haz.len H.Haz.cap] := Box.below (ba1.chg (F := [(w.heap.size + 1 + 1)]) (by (repeat (with_reducible refine Chg.set_ ?_ (by simp) _)); with_reducible exact Chg.refl _ _) (by simp <;> omega)) hb1
  have br2 : Box w2 (w.heap.size + 1) [.slice none 0 0, .slice none 0 0, .slice none 0 0, .slice none 0 0, .int .i64 0, .slice none 0 0, .slice none 0 0, .slice none 0 0] := Box.below (br1.chg (F := [(w.heap.size + 1 + 1)]) (by (repeat (with_reducible refine Chg.set_ ?_ (by simp) _)); with_reducible exact Chg.refl _ _) (by simp <;> omega)) hb1
  have bo2 : Box w2 (w.heap.size + 1 + 1) [.slice K0.Heap.Bytes.a K0.Heap.Bytes.len K0.Heap.Bytes.cap, .slice K0.Heap.Class.a K0.Heap.Class.len K0.Heap.Class.cap, .slice K0.Lists.Global.a K0.Lists.Global.len K0.Lists.Global.cap, .slice K0.Lists.Own.a K0.Lists.Own.len K0.Lists.Own.cap, .int .i64 0, .slice none 0 0, .slice none 0 0, .slice none 0 0] := Box.below ((((bo1.set 0 (.slice K0.Heap.Bytes.a K0.Heap.Bytes.len K0.Heap.Bytes.cap)).set 1 (.slice K0.Heap.Class.a K0.Heap.Class.len K0.Heap.Class.cap)).set 2 (.slice K0.Lists.Global.a K0.Lists.Global.len K0.Lists.Global.cap)).set 3 (.slice K0.Lists.Own.a K0.Lists.Own.len K0.Lists.Own.cap)) hb1
  have hC2 : Chg [(w.heap.size + 1 + 1)] w1 w2 := Chg.trans (by (repeat (with_reducible refine Chg.set_ ?_ (by simp) _)); with_reducible exact Chg.refl _ _) (Chg.of_below hb1)
  have hB2 : Below w.heap.size w w2 := hB1.trans (hC2.below hB1.size (by intro g hg; have := List.mem_singleton.1 hg; omega))
  replace ho0 := ho0.chg hC2 (by intro g hg hm; have a := hf0' g hg; have b := List.mem_singleton.1 hm; omega)
  clear hb1 ba1 br1 bo1 hB1 hC2
  have qa0 := ba2.cell 0 _ rfl
  have qa1 := ba2.cell 1 _ rfl
  have qa2 := ba2.cell 2 _ rfl
  have qa3 := ba2.cell 3 _ rfl
  have qa4 := ba2.cell 4 _ rfl
  have qa5 := ba2.cell 5 _ rfl
  have qa6 := ba2.cell 6 _ rfl
  have qa7 := ba2.cell 7 _ rfl
  have qo0 := bo2.cell 0 _ rfl
  have qo1 := bo2.cell 1 _ rfl
  have qo2 := bo2.cell 2 _ rfl
  have qo3 := bo2.cell 3 _ rfl
  have qo4 := bo2.cell 4 _ rfl
  have qo5 := bo2.cell 5 _ rfl
  have qo6 := bo2.cell 6 _ rfl
  have qo7 := bo2.cell 7 _ rfl
  have qf := bo2.fro
  have ql1 := ba2.lt
  have ql2 := bo2.lt
  go_wp2_with fail
  refine (toLListS_w _ H.Limbo H.LimboT x.Limbo (rdLL_up h.Limbo (hB2.trans (Chg.below (F := [(w.heap.size + 1 + 1)]) (by (repeat (with_reducible refine Chg.set_ ?_ (by simp) _)); with_reducible exact Chg.refl _ _) (by first | exact hB2.size | omega) (by intro g hg; have := List.mem_singleton.1 hg; omega)))) hs2).mono ?_
  rintro e w3 ⟨K2, T2, rfl, ho2, hf2, hb2⟩
  clear qa0 qa1 qa2 qa3 qa4 qa5 qa6 qa7 qo0 qo1 qo2 qo3 qo4 qo5 qo6 qo7 qf ql1 ql2
  have hd0_2 : ∀ g ∈ K0.foot, g ∉ foot2 K2.val T2 := fun g hg hm => by have a := hf2 g hm; have b := ho0.lt g hg; (try simp at a); omega
  have hd1_2 : ∀ g ∈ K1.foot, g ∉ foot2 K2.val T2 := fun g hg hm => by have a := hf2 g hm; have b := ho1.lt g hg; (try simp at a); omega
  have hf2' : ∀ g ∈ foot2 K2.val T2, (w.heap.size + 1 + 1) < g := fun g hg => by have a := hf2 g hg; have b := bo2.lt; (try simp at a b); omega
  clear hf2
  have ba3 : Box w3 w.heap.size [.slice H.Mem.Heap.Bytes.a H.Mem.Heap.Bytes.len H.Mem.Heap.Bytes.cap, .slice H.Mem.Heap.Class.a H.Mem.Heap.Class.len H.Mem.Heap.Class.cap, .slice H.Mem.Lists.Global.a H.Mem.Lists.Global.len H.Mem.Lists.Global.cap, .slice H.Mem.Lists.Own.a H.Mem.Lists.Own.len H.Mem.Lists.Own.cap, .int .i64 x.Clock.Epoch, .slice H.Clock.Pins.a H.Clock.Pins.len H.Clock.Pins.cap, .slice H.Limbo.a H.Limbo.len H.Limbo.cap, .slice H.Haz.a H.Haz.len H.Haz.cap] := Box.below (ba2.chg (F := [(w.heap.size + 1 + 1)]) (by (repeat (with_reducible refine Chg.set_ ?_ (by simp) _)); with_reducible exact Chg.refl _ _) (by simp <;> omega)) hb2
  have br3 : Box w3 (w.heap.size + 1) [.slice none 0 0, .slice none 0 0, .slice none 0 0, .slice none 0 0, .int .i64 0, .slice none 0 0, .slice none 0 0, .slice none 0 0] := Box.below (br2.chg (F := [(w.heap.size + 1 + 1)]) (by (repeat (with_reducible refine Chg.set_ ?_ (by simp) _)); with_reducible exact Chg.refl _ _) (by simp <;> omega)) hb2
  have bo3 : Box w3 (w.heap.size + 1 + 1) [.slice K0.Heap.Bytes.a K0.Heap.Bytes.len K0.Heap.Bytes.cap, .slice K0.Heap.Class.a K0.Heap.Class.len K0.Heap.Class.cap, .slice K0.Lists.Global.a K0.Lists.Global.len K0.Lists.Global.cap, .slice K0.Lists.Own.a K0.Lists.Own.len K0.Lists.Own.cap, .int .i64 x.Clock.Epoch, .slice K1.Pins.a K1.Pins.len K1.Pins.cap, .slice none 0 0, .slice none 0 0] := Box.below ((bo2.set 4 (.int .i64 x.Clock.Epoch)).set 5 (.slice K1.Pins.a K1.Pins.len K1.Pins.cap)) hb2
  have hC3 : Chg [(w.heap.size + 1 + 1)] w2 w3 := Chg.trans (by (repeat (with_reducible refine Chg.set_ ?_ (by simp) _)); with_reducible exact Chg.refl _ _) (Chg.of_below hb2)
  have hB3 : Below w.heap.size w w3 := hB2.trans (hC3.below hB2.size (by intro g hg; have := List.mem_singleton.1 hg; omega))
  replace ho0 := ho0.chg hC3 (by intro g hg hm; have a := hf0' g hg; have b := List.mem_singleton.1 hm; omega)
  replace ho1 := ho1.chg hC3 (by intro g hg hm; have a := hf1' g hg; have b := List.mem_singleton.1 hm; omega)
  clear hb2 ba2 br2 bo2 hB2 hC3
  have qa0 := ba3.cell 0 _ rfl
  have qa1 := ba3.cell 1 _ rfl
  have qa2 := ba3.cell 2 _ rfl
  have qa3 := ba3.cell 3 _ rfl
  have qa4 := ba3.cell 4 _ rfl
  have qa5 := ba3.cell 5 _ rfl
  have qa6 := ba3.cell 6 _ rfl
  have qa7 := ba3.cell 7 _ rfl
  have qo0 := bo3.cell 0 _ rfl
  have qo1 := bo3.cell 1 _ rfl
  have qo2 := bo3.cell 2 _ rfl
  have qo3 := bo3.cell 3 _ rfl
  have qo4 := bo3.cell 4 _ rfl
  have qo5 := bo3.cell 5 _ rfl
  have qo6 := bo3.cell 6 _ rfl
  have qo7 := bo3.cell 7 _ rfl
  have qf := bo3.fro
  have ql1 := ba3.lt
  have ql2 := bo3.lt
  go_wp2_with fail
  refine (toIntS_w _ H.Haz x.Haz (rd_up h.Haz (hB3.trans (Chg.below (F := [(w.heap.size + 1 + 1)]) (by (repeat (with_reducible refine Chg.set_ ?_ (by simp) _)); with_reducible exact Chg.refl _ _) (by first | exact hB3.size | omega) (by intro g hg; have := List.mem_singleton.1 hg; omega)))) hs3).mono ?_
  rintro e w4 ⟨K3, rfl, ho3, hf3, hb3⟩
  clear qa0 qa1 qa2 qa3 qa4 qa5 qa6 qa7 qo0 qo1 qo2 qo3 qo4 qo5 qo6 qo7 qf ql1 ql2
  have hd0_3 : ∀ g ∈ K0.foot, g ∉ foot1 K3.val := fun g hg hm => by have a := hf3 g hm; have b := ho0.lt g hg; (try simp at a); omega
  have hd1_3 : ∀ g ∈ K1.foot, g ∉ foot1 K3.val := fun g hg hm => by have a := hf3 g hm; have b := ho1.lt g hg; (try simp at a); omega
  have hd2_3 : ∀ g ∈ foot2 K2.val T2, g ∉ foot1 K3.val := fun g hg hm => by have a := hf3 g hm; have b := ho2.lt g hg; (try simp at a); omega
  have hf3' : ∀ g ∈ foot1 K3.val, (w.heap.size + 1 + 1) < g := fun g hg => by have a := hf3 g hg; have b := bo3.lt; (try simp at a b); omega
  clear hf3
  have ba4 : Box w4 w.heap.size [.slice H.Mem.Heap.Bytes.a H.Mem.Heap.Bytes.len H.Mem.Heap.Bytes.cap, .slice H.Mem.Heap.Class.a H.Mem.Heap.Class.len H.Mem.Heap.Class.cap, .slice H.Mem.Lists.Global.a H.Mem.Lists.Global.len H.Mem.Lists.Global.cap, .slice H.Mem.Lists.Own.a H.Mem.Lists.Own.len H.Mem.Lists.Own.cap, .int .i64 x.Clock.Epoch, .slice H.Clock.Pins.a H.Clock.Pins.len H.Clock.Pins.cap, .slice H.Limbo.a H.Limbo.len H.Limbo.cap, .slice H.Haz.a H.Haz.len H.Haz.cap] := Box.below (ba3.chg (F := [(w.heap.size + 1 + 1)]) (by (repeat (with_reducible refine Chg.set_ ?_ (by simp) _)); with_reducible exact Chg.refl _ _) (by simp <;> omega)) hb3
  have br4 : Box w4 (w.heap.size + 1) [.slice none 0 0, .slice none 0 0, .slice none 0 0, .slice none 0 0, .int .i64 0, .slice none 0 0, .slice none 0 0, .slice none 0 0] := Box.below (br3.chg (F := [(w.heap.size + 1 + 1)]) (by (repeat (with_reducible refine Chg.set_ ?_ (by simp) _)); with_reducible exact Chg.refl _ _) (by simp <;> omega)) hb3
  have bo4 : Box w4 (w.heap.size + 1 + 1) [.slice K0.Heap.Bytes.a K0.Heap.Bytes.len K0.Heap.Bytes.cap, .slice K0.Heap.Class.a K0.Heap.Class.len K0.Heap.Class.cap, .slice K0.Lists.Global.a K0.Lists.Global.len K0.Lists.Global.cap, .slice K0.Lists.Own.a K0.Lists.Own.len K0.Lists.Own.cap, .int .i64 x.Clock.Epoch, .slice K1.Pins.a K1.Pins.len K1.Pins.cap, .slice K2.a K2.len K2.cap, .slice none 0 0] := Box.below (bo3.set 6 (.slice K2.a K2.len K2.cap)) hb3
  have hC4 : Chg [(w.heap.size + 1 + 1)] w3 w4 := Chg.trans (by (repeat (with_reducible refine Chg.set_ ?_ (by simp) _)); with_reducible exact Chg.refl _ _) (Chg.of_below hb3)
  have hB4 : Below w.heap.size w w4 := hB3.trans (hC4.below hB3.size (by intro g hg; have := List.mem_singleton.1 hg; omega))
  replace ho0 := ho0.chg hC4 (by intro g hg hm; have a := hf0' g hg; have b := List.mem_singleton.1 hm; omega)
  replace ho1 := ho1.chg hC4 (by intro g hg hm; have a := hf1' g hg; have b := List.mem_singleton.1 hm; omega)
  replace ho2 := ho2.chg hC4 (by intro g hg hm; have a := hf2' g hg; have b := List.mem_singleton.1 hm; omega)
  clear hb3 ba3 br3 bo3 hB3 hC4
  have qa0 := ba4.cell 0 _ rfl
  have qa1 := ba4.cell 1 _ rfl
  have qa2 := ba4.cell 2 _ rfl
  have qa3 := ba4.cell 3 _ rfl
  have qa4 := ba4.cell 4 _ rfl
  have qa5 := ba4.cell 5 _ rfl
  have qa6 := ba4.cell 6 _ rfl
  have qa7 := ba4.cell 7 _ rfl
  have qo0 := bo4.cell 0 _ rfl
  have qo1 := bo4.cell 1 _ rfl
  have qo2 := bo4.cell 2 _ rfl
  have qo3 := bo4.cell 3 _ rfl
  have qo4 := bo4.cell 4 _ rfl
  have qo5 := bo4.cell 5 _ rfl
  have qo6 := bo4.cell 6 _ rfl
  have qo7 := bo4.cell 7 _ rfl
  have qf := bo4.fro
  have qg := br4.fro
  have qr0 := br4.cell 0 _ rfl
  have qr1 := br4.cell 1 _ rfl
  have qr2 := br4.cell 2 _ rfl
  have qr3 := br4.cell 3 _ rfl
  have qr4 := br4.cell 4 _ rfl
  have qr5 := br4.cell 5 _ rfl
  have qr6 := br4.cell 6 _ rfl
  have qr7 := br4.cell 7 _ rfl
  have ql1 := ba4.lt
  have ql2 := bo4.lt
  go_wp2
  refine bodyPost_ret (v := .agg #[.slice K0.Heap.Bytes.a K0.Heap.Bytes.len K0.Heap.Bytes.cap, .slice K0.Heap.Class.a K0.Heap.Class.len K0.Heap.Class.cap, .slice K0.Lists.Global.a K0.Lists.Global.len K0.Lists.Global.cap, .slice K0.Lists.Own.a K0.Lists.Own.len K0.Lists.Own.cap, .int .i64 x.Clock.Epoch, .slice K1.Pins.a K1.Pins.len K1.Pins.cap, .slice K2.a K2.len K2.cap, .slice K3.a K3.len K3.cap]) (by simp [results, Tryz.results28, go_sem, *]) rfl ⟨⟨K0, K1, K2, T2, K3⟩, rfl, ⟨?_, ?_, ?_, ?_, hd0_1, hd0_2, hd0_3, hd1_2, hd1_3, hd2_3⟩, ?_, ?_⟩
  · exact ho0.chg (F := [(w.heap.size + 1 + 1), (w.heap.size + 1)]) (by (repeat (with_reducible refine Chg.set_ ?_ (by simp) _)); with_reducible exact Chg.refl _ _) (by intro g hg hm; have a := hf0' g hg; simp at hm; omega)
  · exact ho1.chg (F := [(w.heap.size + 1 + 1), (w.heap.size + 1)]) (by (repeat (with_reducible refine Chg.set_ ?_ (by simp) _)); with_reducible exact Chg.refl _ _) (by intro g hg hm; have a := hf1' g hg; simp at hm; omega)
  · exact ho2.chg (F := [(w.heap.size + 1 + 1), (w.heap.size + 1)]) (by (repeat (with_reducible refine Chg.set_ ?_ (by simp) _)); with_reducible exact Chg.refl _ _) (by intro g hg hm; have a := hf2' g hg; simp at hm; omega)
  · exact ho3.chg (F := [(w.heap.size + 1 + 1), (w.heap.size + 1)]) (by (repeat (with_reducible refine Chg.set_ ?_ (by simp) _)); with_reducible exact Chg.refl _ _) (by intro g hg hm; have a := hf3' g hg; simp at hm; omega)
  · intro g hg
    rcases HBase.mem_foot.1 hg with hg | hg | hg | hg
    · have a := hf0' g hg
      omega
    · have a := hf1' g hg
      omega
    · have a := hf2' g hg
      omega
    · have a := hf3' g hg
      omega
  · exact hB4.trans (Chg.below (F := [(w.heap.size + 1 + 1), (w.heap.size + 1)]) (by (repeat (with_reducible refine Chg.set_ ?_ (by simp) _)); with_reducible exact Chg.refl _ _) hB4.size (by intro g hg; simp at hg; omega))

set_option maxRecDepth 100000 in
set_option maxHeartbeats 4000000 in
theorem eqBase_ct (w : World) (H1 H2 : HBase) (x : Base) (h1 : RdBase w w.heap.size H1 x) (h2 : RdBase w w.heap.size H2 x) (hs : sizeBase x ≤ 1073741824) :
    Calls Tryz.prog 30 #[.agg #[.slice H1.Mem.Heap.Bytes.a H1.Mem.Heap.Bytes.len H1.Mem.Heap.Bytes.cap, .slice H1.Mem.Heap.Class.a H1.Mem.Heap.Class.len H1.Mem.Heap.Class.cap, .slice H1.Mem.Lists.Global.a H1.Mem.Lists.Global.len H1.Mem.Lists.Global.cap, .slice H1.Mem.Lists.Own.a H1.Mem.Lists.Own.len H1.Mem.Lists.Own.cap, .int .i64 x.Clock.Epoch, .slice H1.Clock.Pins.a H1.Clock.Pins.len H1.Clock.Pins.cap, .slice H1.Limbo.a H1.Limbo.len H1.Limbo.cap, .slice H1.Haz.a H1.Haz.len H1.Haz.cap], .agg #[.slice H2.Mem.Heap.Bytes.a H2.Mem.Heap.Bytes.len H2.Mem.Heap.Bytes.cap, .slice H2.Mem.Heap.Class.a H2.Mem.Heap.Class.len H2.Mem.Heap.Class.cap, .slice H2.Mem.Lists.Global.a H2.Mem.Lists.Global.len H2.Mem.Lists.Global.cap, .slice H2.Mem.Lists.Own.a H2.Mem.Lists.Own.len H2.Mem.Lists.Own.cap, .int .i64 x.Clock.Epoch, .slice H2.Clock.Pins.a H2.Clock.Pins.len H2.Clock.Pins.cap, .slice H2.Limbo.a H2.Limbo.len H2.Limbo.cap, .slice H2.Haz.a H2.Haz.len H2.Haz.cap]] w fun e w' => e = .returned (.bool true) ∧ Below w.heap.size w w' := by
  have hs0 : sizeMem x.Mem ≤ 1073741824 := by unfold sizeBase at hs; omega
  have hs1 : sizeClock x.Clock ≤ 1073741824 := by unfold sizeBase at hs; omega
  have hs2 : szLL x.Limbo ≤ 1073741824 := by unfold sizeBase at hs; omega
  have hs3 : x.Haz.length ≤ 1073741824 := by unfold sizeBase at hs; omega
  clear hs
  have ba0 : Box ((w.alloc (.cells #[.slice H1.Mem.Heap.Bytes.a H1.Mem.Heap.Bytes.len H1.Mem.Heap.Bytes.cap, .slice H1.Mem.Heap.Class.a H1.Mem.Heap.Class.len H1.Mem.Heap.Class.cap, .slice H1.Mem.Lists.Global.a H1.Mem.Lists.Global.len H1.Mem.Lists.Global.cap, .slice H1.Mem.Lists.Own.a H1.Mem.Lists.Own.len H1.Mem.Lists.Own.cap, .int .i64 x.Clock.Epoch, .slice H1.Clock.Pins.a H1.Clock.Pins.len H1.Clock.Pins.cap, .slice H1.Limbo.a H1.Limbo.len H1.Limbo.cap, .slice H1.Haz.a H1.Haz.len H1.Haz.cap] 37)).alloc (.cells #[.slice H2.Mem.Heap.Bytes.a H2.Mem.Heap.Bytes.len H2.Mem.Heap.Bytes.cap, .slice H2.Mem.Heap.Class.a H2.Mem.Heap.Class.len H2.Mem.Heap.Class.cap, .slice H2.Mem.Lists.Global.a H2.Mem.Lists.Global.len H2.Mem.Lists.Global.cap, .slice H2.Mem.Lists.Own.a H2.Mem.Lists.Own.len H2.Mem.Lists.Own.cap, .int .i64 x.Clock.Epoch, .slice H2.Clock.Pins.a H2.Clock.Pins.len H2.Clock.Pins.cap, .slice H2.Limbo.a H2.Limbo.len H2.Limbo.cap, .slice H2.Haz.a H2.Haz.len H2.Haz.cap] 37)) w.heap.size [.slice H1.Mem.Heap.Bytes.a H1.Mem.Heap.Bytes.len H1.Mem.Heap.Bytes.cap, .slice H1.Mem.Heap.Class.a H1.Mem.Heap.Class.len H1.Mem.Heap.Class.cap, .slice H1.Mem.Lists.Global.a H1.Mem.Lists.Global.len H1.Mem.Lists.Global.cap, .slice H1.Mem.Lists.Own.a H1.Mem.Lists.Own.len H1.Mem.Lists.Own.cap, .int .i64 x.Clock.Epoch, .slice H1.Clock.Pins.a H1.Clock.Pins.len H1.Clock.Pins.cap, .slice H1.Limbo.a H1.Limbo.len H1.Limbo.cap, .slice H1.Haz.a H1.Haz.len H1.Haz.cap] := (Box.new w #[.slice H1.Mem.Heap.Bytes.a H1.Mem.Heap.Bytes.len H1.Mem.Heap.Bytes.cap, .slice H1.Mem.Heap.Class.a H1.Mem.Heap.Class.len H1.Mem.Heap.Class.cap, .slice H1.Mem.Lists.Global.a H1.Mem.Lists.Global.len H1.Mem.Lists.Global.cap, .slice H1.Mem.Lists.Own.a H1.Mem.Lists.Own.len H1.Mem.Lists.Own.cap, .int .i64 x.Clock.Epoch, .slice H1.Clock.Pins.a H1.Clock.Pins.len H1.Clock.Pins.cap, .slice H1.Limbo.a H1.Limbo.len H1.Limbo.cap, .slice H1.Haz.a H1.Haz.len H1.Haz.cap] 37).alloc _
  have bb0 : Box ((w.alloc (.cells #[.slice H1.Mem.Heap.Bytes.a H1.Mem.Heap.Bytes.len H1.Mem.Heap.Bytes.cap, .slice H1.Mem.Heap.Class.a H1.Mem.Heap.Class.len H1.Mem.Heap.Class.cap, .slice H1.Mem.Lists.Global.a H1.Mem.Lists.Global.len H1.Mem.Lists.Global.cap, .slice H1.Mem.Lists.Own.a H1.Mem.Lists.Own.len H1.Mem.Lists.Own.cap, .int .i64 x.Clock.Epoch, .slice H1.Clock.Pins.a H1.Clock.Pins.len H1.Clock.Pins.cap, .slice H1.Limbo.a H1.Limbo.len H1.Limbo.cap, .slice H1.Haz.a H1.Haz.len H1.Haz.cap] 37)).alloc (.cells #[.slice H2.Mem.Heap.Bytes.a H2.Mem.Heap.Bytes.len H2.Mem.Heap.Bytes.cap, .slice H2.Mem.Heap.Class.a H2.Mem.Heap.Class.len H2.Mem.Heap.Class.cap, .slice H2.Mem.Lists.Global.a H2.Mem.Lists.Global.len H2.Mem.Lists.Global.cap, .slice H2.Mem.Lists.Own.a H2.Mem.Lists.Own.len H2.Mem.Lists.Own.cap, .int .i64 x.Clock.Epoch, .slice H2.Clock.Pins.a H2.Clock.Pins.len H2.Clock.Pins.cap, .slice H2.Limbo.a H2.Limbo.len H2.Limbo.cap, .slice H2.Haz.a H2.Haz.len H2.Haz.cap] 37)) (w.heap.size + 1) [.slice H2.Mem.Heap.Bytes.a H2.Mem.Heap.Bytes.len H2.Mem.Heap.Bytes.cap, .slice H2.Mem.Heap.Class.a H2.Mem.Heap.Class.len H2.Mem.Heap.Class.cap, .slice H2.Mem.Lists.Global.a H2.Mem.Lists.Global.len H2.Mem.Lists.Global.cap, .slice H2.Mem.Lists.Own.a H2.Mem.Lists.Own.len H2.Mem.Lists.Own.cap, .int .i64 x.Clock.Epoch, .slice H2.Clock.Pins.a H2.Clock.Pins.len H2.Clock.Pins.cap, .slice H2.Limbo.a H2.Limbo.len H2.Limbo.cap, .slice H2.Haz.a H2.Haz.len H2.Haz.cap] := by have a := Box.new (w.alloc (.cells #[.slice H1.Mem.Heap.Bytes.a H1.Mem.Heap.Bytes.len H1.Mem.Heap.Bytes.cap, .slice H1.Mem.Heap.Class.a H1.Mem.Heap.Class.len H1.Mem.Heap.Class.cap, .slice H1.Mem.Lists.Global.a H1.Mem.Lists.Global.len H1.Mem.Lists.Global.cap, .slice H1.Mem.Lists.Own.a H1.Mem.Lists.Own.len H1.Mem.Lists.Own.cap, .int .i64 x.Clock.Epoch, .slice H1.Clock.Pins.a H1.Clock.Pins.len H1.Clock.Pins.cap, .slice H1.Limbo.a H1.Limbo.len H1.Limbo.cap, .slice H1.Haz.a H1.Haz.len H1.Haz.cap] 37)) #[.slice H2.Mem.Heap.Bytes.a H2.Mem.Heap.Bytes.len H2.Mem.Heap.Bytes.cap, .slice H2.Mem.Heap.Class.a H2.Mem.Heap.Class.len H2.Mem.Heap.Class.cap, .slice H2.Mem.Lists.Global.a H2.Mem.Lists.Global.len H2.Mem.Lists.Global.cap, .slice H2.Mem.Lists.Own.a H2.Mem.Lists.Own.len H2.Mem.Lists.Own.cap, .int .i64 x.Clock.Epoch, .slice H2.Clock.Pins.a H2.Clock.Pins.len H2.Clock.Pins.cap, .slice H2.Limbo.a H2.Limbo.len H2.Limbo.cap, .slice H2.Haz.a H2.Haz.len H2.Haz.cap] 37; simpa using a
  have hB0 : Below w.heap.size w ((w.alloc (.cells #[.slice H1.Mem.Heap.Bytes.a H1.Mem.Heap.Bytes.len H1.Mem.Heap.Bytes.cap, .slice H1.Mem.Heap.Class.a H1.Mem.Heap.Class.len H1.Mem.Heap.Class.cap, .slice H1.Mem.Lists.Global.a H1.Mem.Lists.Global.len H1.Mem.Lists.Global.cap, .slice H1.Mem.Lists.Own.a H1.Mem.Lists.Own.len H1.Mem.Lists.Own.cap, .int .i64 x.Clock.Epoch, .slice H1.Clock.Pins.a H1.Clock.Pins.len H1.Clock.Pins.cap, .slice H1.Limbo.a H1.Limbo.len H1.Limbo.cap, .slice H1.Haz.a H1.Haz.len H1.Haz.cap] 37)).alloc (.cells #[.slice H2.Mem.Heap.Bytes.a H2.Mem.Heap.Bytes.len H2.Mem.Heap.Bytes.cap, .slice H2.Mem.Heap.Class.a H2.Mem.Heap.Class.len H2.Mem.Heap.Class.cap, .slice H2.Mem.Lists.Global.a H2.Mem.Lists.Global.len H2.Mem.Lists.Global.cap, .slice H2.Mem.Lists.Own.a H2.Mem.Lists.Own.len H2.Mem.Lists.Own.cap, .int .i64 x.Clock.Epoch, .slice H2.Clock.Pins.a H2.Clock.Pins.len H2.Clock.Pins.cap, .slice H2.Limbo.a H2.Limbo.len H2.Limbo.cap, .slice H2.Haz.a H2.Haz.len H2.Haz.cap] 37)) := by repeat (first | exact Below.refl _ _ | refine Below.alloc ?_ (by simp <;> omega) _ | refine below_grow_of ?_ (by simp <;> omega) _ _ | refine Below.drew ?_ | refine below_drewN ?_ _)
  go_enter Tryz.func30, Tryz.ntmps30
  go_wp2_with fail
  refine (eqMem_ct _ H1.Mem H2.Mem x.Mem (rdMem_up h1.Mem hB0) (rdMem_up h2.Mem hB0) hs0).mono ?_
  rintro e w1 ⟨rfl, hb0⟩
  have ba1 := ba0.below hb0
  have bb1 := bb0.below hb0
  have hB1 := hB0.trans (hb0.mono hB0.size)
  clear ba0 bb0 hb0 hB0
  have qa0 := ba1.cell 0 _ rfl
  have qb0 := bb1.cell 0 _ rfl
  have qa1 := ba1.cell 1 _ rfl
  have qb1 := bb1.cell 1 _ rfl
  have qa2 := ba1.cell 2 _ rfl
  have qb2 := bb1.cell 2 _ rfl
  have qa3 := ba1.cell 3 _ rfl
  have qb3 := bb1.cell 3 _ rfl
  have qa4 := ba1.cell 4 _ rfl
  have qb4 := bb1.cell 4 _ rfl
  have qa5 := ba1.cell 5 _ rfl
  have qb5 := bb1.cell 5 _ rfl
  have qa6 := ba1.cell 6 _ rfl
  have qb6 := bb1.cell 6 _ rfl
  have qa7 := ba1.cell 7 _ rfl
  have qb7 := bb1.cell 7 _ rfl
  go_wp2_with fail
  refine (eqClock_ct _ H1.Clock H2.Clock x.Clock (rdClock_up h1.Clock hB1) (rdClock_up h2.Clock hB1) hs1).mono ?_
  rintro e w2 ⟨rfl, hb1⟩
  have ba2 := ba1.below hb1
  have bb2 := bb1.below hb1
  have hB2 := hB1.trans (hb1.mono hB1.size)
  clear ba1 bb1 hb1 hB1 qa0 qb0 qa1 qb1 qa2 qb2 qa3 qb3 qa4 qb4 qa5 qb5 qa6 qb6 qa7 qb7
  have qa0 := ba2.cell 0 _ rfl
  have qb0 := bb2.cell 0 _ rfl
  have qa1 := ba2.cell 1 _ rfl
  have qb1 := bb2.cell 1 _ rfl
  have qa2 := ba2.cell 2 _ rfl
  have qb2 := bb2.cell 2 _ rfl
  have qa3 := ba2.cell 3 _ rfl
  have qb3 := bb2.cell 3 _ rfl
  have qa4 := ba2.cell 4 _ rfl
  have qb4 := bb2.cell 4 _ rfl
  have qa5 := ba2.cell 5 _ rfl
  have qb5 := bb2.cell 5 _ rfl
  have qa6 := ba2.cell 6 _ rfl
  have qb6 := bb2.cell 6 _ rfl
  have qa7 := ba2.cell 7 _ rfl
  have qb7 := bb2.cell 7 _ rfl
  go_wp2_with fail
  refine (eqLListS_w _ H1.Limbo H1.LimboT H2.Limbo H2.LimboT x.Limbo (rdLL_up h1.Limbo hB2) (rdLL_up h2.Limbo hB2) hs2).mono ?_
  rintro e w3 ⟨rfl, hb2⟩
  have ba3 := ba2.below hb2
  have bb3 := bb2.below hb2
  have hB3 := hB2.trans (hb2.mono hB2.size)
  clear ba2 bb2 hb2 hB2 qa0 qb0 qa1 qb1 qa2 qb2 qa3 qb3 qa4 qb4 qa5 qb5 qa6 qb6 qa7 qb7
  have qa0 := ba3.cell 0 _ rfl
  have qb0 := bb3.cell 0 _ rfl
  have qa1 := ba3.cell 1 _ rfl
  have qb1 := bb3.cell 1 _ rfl
  have qa2 := ba3.cell 2 _ rfl
  have qb2 := bb3.cell 2 _ rfl
  have qa3 := ba3.cell 3 _ rfl
  have qb3 := bb3.cell 3 _ rfl
  have qa4 := ba3.cell 4 _ rfl
  have qb4 := bb3.cell 4 _ rfl
  have qa5 := ba3.cell 5 _ rfl
  have qb5 := bb3.cell 5 _ rfl
  have qa6 := ba3.cell 6 _ rfl
  have qb6 := bb3.cell 6 _ rfl
  have qa7 := ba3.cell 7 _ rfl
  have qb7 := bb3.cell 7 _ rfl
  go_wp2_with fail
  refine (eqIntS_w _ H1.Haz H2.Haz x.Haz (rd_up h1.Haz hB3) (rd_up h2.Haz hB3) hs3).mono ?_
  rintro e w4 ⟨rfl, hb3⟩
  have ba4 := ba3.below hb3
  have bb4 := bb3.below hb3
  have hB4 := hB3.trans (hb3.mono hB3.size)
  clear ba3 bb3 hb3 hB3 qa0 qb0 qa1 qb1 qa2 qb2 qa3 qb3 qa4 qb4 qa5 qb5 qa6 qb6 qa7 qb7
  have qa0 := ba4.cell 0 _ rfl
  have qb0 := bb4.cell 0 _ rfl
  have qa1 := ba4.cell 1 _ rfl
  have qb1 := bb4.cell 1 _ rfl
  have qa2 := ba4.cell 2 _ rfl
  have qb2 := bb4.cell 2 _ rfl
  have qa3 := ba4.cell 3 _ rfl
  have qb3 := bb4.cell 3 _ rfl
  have qa4 := ba4.cell 4 _ rfl
  have qb4 := bb4.cell 4 _ rfl
  have qa5 := ba4.cell 5 _ rfl
  have qb5 := bb4.cell 5 _ rfl
  have qa6 := ba4.cell 6 _ rfl
  have qb6 := bb4.cell 6 _ rfl
  have qa7 := ba4.cell 7 _ rfl
  have qb7 := bb4.cell 7 _ rfl
  go_wp2
  go_ret
  exact ⟨rfl, hB4⟩

set_option maxRecDepth 100000 in
set_option maxHeartbeats 4000000 in
theorem szBase_ct (w : World) (H : HBase) (x : Base) (k : Nat) (h : RdBase w w.heap.size H x) (hk : k ≤ 1073741824) :
    Calls Tryz.prog 27 #[.agg #[.slice H.Mem.Heap.Bytes.a H.Mem.Heap.Bytes.len H.Mem.Heap.Bytes.cap, .slice H.Mem.Heap.Class.a H.Mem.Heap.Class.len H.Mem.Heap.Class.cap, .slice H.Mem.Lists.Global.a H.Mem.Lists.Global.len H.Mem.Lists.Global.cap, .slice H.Mem.Lists.Own.a H.Mem.Lists.Own.len H.Mem.Lists.Own.cap, .int .i64 x.Clock.Epoch, .slice H.Clock.Pins.a H.Clock.Pins.len H.Clock.Pins.cap, .slice H.Limbo.a H.Limbo.len H.Limbo.cap, .slice H.Haz.a H.Haz.len H.Haz.cap], .int .i64 k] w fun e w' => e = .returned (.int .i64 (leftOf k (sizeBase x))) ∧ Below w.heap.size w w' := by
  have ba0 : Box (w.alloc (.cells #[.slice H.Mem.Heap.Bytes.a H.Mem.Heap.Bytes.len H.Mem.Heap.Bytes.cap, .slice H.Mem.Heap.Class.a H.Mem.Heap.Class.len H.Mem.Heap.Class.cap, .slice H.Mem.Lists.Global.a H.Mem.Lists.Global.len H.Mem.Lists.Global.cap, .slice H.Mem.Lists.Own.a H.Mem.Lists.Own.len H.Mem.Lists.Own.cap, .int .i64 x.Clock.Epoch, .slice H.Clock.Pins.a H.Clock.Pins.len H.Clock.Pins.cap, .slice H.Limbo.a H.Limbo.len H.Limbo.cap, .slice H.Haz.a H.Haz.len H.Haz.cap] 57)) w.heap.size [.slice H.Mem.Heap.Bytes.a H.Mem.Heap.Bytes.len H.Mem.Heap.Bytes.cap, .slice H.Mem.Heap.Class.a H.Mem.Heap.Class.len H.Mem.Heap.Class.cap, .slice H.Mem.Lists.Global.a H.Mem.Lists.Global.len H.Mem.Lists.Global.cap, .slice H.Mem.Lists.Own.a H.Mem.Lists.Own.len H.Mem.Lists.Own.cap, .int .i64 x.Clock.Epoch, .slice H.Clock.Pins.a H.Clock.Pins.len H.Clock.Pins.cap, .slice H.Limbo.a H.Limbo.len H.Limbo.cap, .slice H.Haz.a H.Haz.len H.Haz.cap] := Box.new w #[.slice H.Mem.Heap.Bytes.a H.Mem.Heap.Bytes.len H.Mem.Heap.Bytes.cap, .slice H.Mem.Heap.Class.a H.Mem.Heap.Class.len H.Mem.Heap.Class.cap, .slice H.Mem.Lists.Global.a H.Mem.Lists.Global.len H.Mem.Lists.Global.cap, .slice H.Mem.Lists.Own.a H.Mem.Lists.Own.len H.Mem.Lists.Own.cap, .int .i64 x.Clock.Epoch, .slice H.Clock.Pins.a H.Clock.Pins.len H.Clock.Pins.cap, .slice H.Limbo.a H.Limbo.len H.Limbo.cap, .slice H.Haz.a H.Haz.len H.Haz.cap] 57
  have hB0 : Below w.heap.size w (w.alloc (.cells #[.slice H.Mem.Heap.Bytes.a H.Mem.Heap.Bytes.len H.Mem.Heap.Bytes.cap, .slice H.Mem.Heap.Class.a H.Mem.Heap.Class.len H.Mem.Heap.Class.cap, .slice H.Mem.Lists.Global.a H.Mem.Lists.Global.len H.Mem.Lists.Global.cap, .slice H.Mem.Lists.Own.a H.Mem.Lists.Own.len H.Mem.Lists.Own.cap, .int .i64 x.Clock.Epoch, .slice H.Clock.Pins.a H.Clock.Pins.len H.Clock.Pins.cap, .slice H.Limbo.a H.Limbo.len H.Limbo.cap, .slice H.Haz.a H.Haz.len H.Haz.cap] 57)) := by repeat (first | exact Below.refl _ _ | refine Below.alloc ?_ (by simp <;> omega) _ | refine below_grow_of ?_ (by simp <;> omega) _ _ | refine Below.drew ?_ | refine below_drewN ?_ _)
  have HE := Hid.mk_ (show sizeBase x = sizeMem x.Mem + sizeClock x.Clock + szLL x.Limbo + x.Haz.length from rfl)
  go_enter Tryz.func27, Tryz.ntmps27
  go_wp2_with fail
  refine (szMem_ct _ H.Mem x.Mem (k) (rdMem_up h.Mem hB0) (by omega)).mono ?_
  rintro e w1 ⟨rfl, hb0⟩
  have ba1 := ba0.below hb0
  have hB1 := hB0.trans (hb0.mono hB0.size)
  clear ba0 hb0 hB0
  by_cases hh0 : sizeMem x.Mem ≤ k
  case neg =>
    rw [leftOf_neg hh0]
    have HX := Hid.mk_ (show leftOf k (sizeBase x) = -1 by rw [HE.out]; exact leftOf_neg (by omega))
    clear hh0
    go_wp2
    go_ret
    exact ⟨ret_i64 HX.out.symm, hB1⟩
  rw [leftOf_nat hh0]
  have hn0 : ¬ (((k - sizeMem x.Mem : Nat) : Nat) : Int) < 0 := by omega
  have qa0 := ba1.cell 0 _ rfl
  have qa1 := ba1.cell 1 _ rfl
  have qa2 := ba1.cell 2 _ rfl
  have qa3 := ba1.cell 3 _ rfl
  have qa4 := ba1.cell 4 _ rfl
  have qa5 := ba1.cell 5 _ rfl
  have qa6 := ba1.cell 6 _ rfl
  have qa7 := ba1.cell 7 _ rfl
  go_wp2_with fail
  refine (szClock_ct _ H.Clock x.Clock (k - sizeMem x.Mem) (rdClock_up h.Clock hB1) (by omega)).mono ?_
  rintro e w2 ⟨rfl, hb1⟩
  have ba2 := ba1.below hb1
  have hB2 := hB1.trans (hb1.mono hB1.size)
  clear ba1 hb1 hB1 qa0 qa1 qa2 qa3 qa4 qa5 qa6 qa7
  by_cases hh1 : sizeClock x.Clock ≤ k - sizeMem x.Mem
  case neg =>
    rw [leftOf_neg hh1]
    have HX := Hid.mk_ (show leftOf k (sizeBase x) = -1 by rw [HE.out]; exact leftOf_neg (by omega))
    clear hh1
    go_wp2
    go_ret
    exact ⟨ret_i64 HX.out.symm, hB2⟩
  rw [leftOf_nat hh1]
  have hn1 : ¬ (((k - sizeMem x.Mem - sizeClock x.Clock : Nat) : Nat) : Int) < 0 := by omega
  have qa0 := ba2.cell 0 _ rfl
  have qa1 := ba2.cell 1 _ rfl
  have qa2 := ba2.cell 2 _ rfl
  have qa3 := ba2.cell 3 _ rfl
  have qa4 := ba2.cell 4 _ rfl
  have qa5 := ba2.cell 5 _ rfl
  have qa6 := ba2.cell 6 _ rfl
  have qa7 := ba2.cell 7 _ rfl
  go_wp2_with fail
  refine (szLListS_w _ H.Limbo H.LimboT x.Limbo (k - sizeMem x.Mem - sizeClock x.Clock) (rdLL_up h.Limbo hB2) (by omega)).mono ?_
  rintro e w3 ⟨rfl, hb2⟩
  have ba3 := ba2.below hb2
  have hB3 := hB2.trans (hb2.mono hB2.size)
  clear ba2 hb2 hB2 qa0 qa1 qa2 qa3 qa4 qa5 qa6 qa7
  by_cases hh2 : szLL x.Limbo ≤ k - sizeMem x.Mem - sizeClock x.Clock
  case neg =>
    rw [leftOf_neg hh2]
    have HX := Hid.mk_ (show leftOf k (sizeBase x) = -1 by rw [HE.out]; exact leftOf_neg (by omega))
    clear hh2
    go_wp2
    go_ret
    exact ⟨ret_i64 HX.out.symm, hB3⟩
  rw [leftOf_nat hh2]
  have hn2 : ¬ (((k - sizeMem x.Mem - sizeClock x.Clock - szLL x.Limbo : Nat) : Nat) : Int) < 0 := by omega
  have qa0 := ba3.cell 0 _ rfl
  have qa1 := ba3.cell 1 _ rfl
  have qa2 := ba3.cell 2 _ rfl
  have qa3 := ba3.cell 3 _ rfl
  have qa4 := ba3.cell 4 _ rfl
  have qa5 := ba3.cell 5 _ rfl
  have qa6 := ba3.cell 6 _ rfl
  have qa7 := ba3.cell 7 _ rfl
  go_wp2_with fail
  refine (szIntS_w _ H.Haz x.Haz (k - sizeMem x.Mem - sizeClock x.Clock - szLL x.Limbo) (rd_up h.Haz hB3) (by omega)).mono ?_
  rintro e w4 ⟨rfl, hb3⟩
  have ba4 := ba3.below hb3
  have hB4 := hB3.trans (hb3.mono hB3.size)
  clear ba3 hb3 hB3 qa0 qa1 qa2 qa3 qa4 qa5 qa6 qa7
  by_cases hh3 : x.Haz.length ≤ k - sizeMem x.Mem - sizeClock x.Clock - szLL x.Limbo
  case neg =>
    rw [leftOf_neg hh3]
    have HX := Hid.mk_ (show leftOf k (sizeBase x) = -1 by rw [HE.out]; exact leftOf_neg (by omega))
    clear hh3
    go_wp2
    go_ret
    exact ⟨ret_i64 HX.out.symm, hB4⟩
  rw [leftOf_nat hh3]
  have hn3 : ¬ (((k - sizeMem x.Mem - sizeClock x.Clock - szLL x.Limbo - x.Haz.length : Nat) : Nat) : Int) < 0 := by omega
  have qa0 := ba4.cell 0 _ rfl
  have qa1 := ba4.cell 1 _ rfl
  have qa2 := ba4.cell 2 _ rfl
  have qa3 := ba4.cell 3 _ rfl
  have qa4 := ba4.cell 4 _ rfl
  have qa5 := ba4.cell 5 _ rfl
  have qa6 := ba4.cell 6 _ rfl
  have qa7 := ba4.cell 7 _ rfl
  have HX := Hid.mk_ (show leftOf k (sizeBase x) = ((k - sizeMem x.Mem - sizeClock x.Clock - szLL x.Limbo - x.Haz.length : Nat) : Int) by rw [HE.out, leftOf_nat (by omega)]; omega)
  go_wp2
  go_ret
  exact ⟨ret_i64 HX.out.symm, hB4⟩

set_option maxRecDepth 100000 in
set_option maxHeartbeats 4000000 in
theorem markBase_ct (w : World) (H : HBase) (x : Base) (k : Int) (h : OwBase w H x) (hk0 : 0 ≤ k) (hk1 : k + (nMarkBase x : Int) ≤ 4611686018427387904) :
    Calls Tryz.prog 35 #[.agg #[.slice H.Mem.Heap.Bytes.a H.Mem.Heap.Bytes.len H.Mem.Heap.Bytes.cap, .slice H.Mem.Heap.Class.a H.Mem.Heap.Class.len H.Mem.Heap.Class.cap, .slice H.Mem.Lists.Global.a H.Mem.Lists.Global.len H.Mem.Lists.Global.cap, .slice H.Mem.Lists.Own.a H.Mem.Lists.Own.len H.Mem.Lists.Own.cap, .int .i64 x.Clock.Epoch, .slice H.Clock.Pins.a H.Clock.Pins.len H.Clock.Pins.cap, .slice H.Limbo.a H.Limbo.len H.Limbo.cap, .slice H.Haz.a H.Haz.len H.Haz.cap], .int .i64 k] w fun e w' => e = .returned (.int .i64 (k + (nMarkBase x : Int))) ∧ OwBase w' H (markBase x k) ∧ Chg H.foot w w' := by
  have ba0 : Box (w.alloc (.cells #[.slice H.Mem.Heap.Bytes.a H.Mem.Heap.Bytes.len H.Mem.Heap.Bytes.cap, .slice H.Mem.Heap.Class.a H.Mem.Heap.Class.len H.Mem.Heap.Class.cap, .slice H.Mem.Lists.Global.a H.Mem.Lists.Global.len H.Mem.Lists.Global.cap, .slice H.Mem.Lists.Own.a H.Mem.Lists.Own.len H.Mem.Lists.Own.cap, .int .i64 x.Clock.Epoch, .slice H.Clock.Pins.a H.Clock.Pins.len H.Clock.Pins.cap, .slice H.Limbo.a H.Limbo.len H.Limbo.cap, .slice H.Haz.a H.Haz.len H.Haz.cap] 37)) w.heap.size [.slice H.Mem.Heap.Bytes.a H.Mem.Heap.Bytes.len H.Mem.Heap.Bytes.cap, .slice H.Mem.Heap.Class.a H.Mem.Heap.Class.len H.Mem.Heap.Class.cap, .slice H.Mem.Lists.Global.a H.Mem.Lists.Global.len H.Mem.Lists.Global.cap, .slice H.Mem.Lists.Own.a H.Mem.Lists.Own.len H.Mem.Lists.Own.cap, .int .i64 x.Clock.Epoch, .slice H.Clock.Pins.a H.Clock.Pins.len H.Clock.Pins.cap, .slice H.Limbo.a H.Limbo.len H.Limbo.cap, .slice H.Haz.a H.Haz.len H.Haz.cap] := Box.new w #[.slice H.Mem.Heap.Bytes.a H.Mem.Heap.Bytes.len H.Mem.Heap.Bytes.cap, .slice H.Mem.Heap.Class.a H.Mem.Heap.Class.len H.Mem.Heap.Class.cap, .slice H.Mem.Lists.Global.a H.Mem.Lists.Global.len H.Mem.Lists.Global.cap, .slice H.Mem.Lists.Own.a H.Mem.Lists.Own.len H.Mem.Lists.Own.cap, .int .i64 x.Clock.Epoch, .slice H.Clock.Pins.a H.Clock.Pins.len H.Clock.Pins.cap, .slice H.Limbo.a H.Limbo.len H.Limbo.cap, .slice H.Haz.a H.Haz.len H.Haz.cap] 37
  have HE := Hid.mk_ (show nMarkBase x = nMarkMem x.Mem + nMarkClock x.Clock + totLL x.Limbo * 2 + x.Haz.length from rfl)
  have HK := Hid.mk_ hk1
  clear hk1
  have hlt := h.lt
  have hl0 : ∀ g ∈ H.Mem.foot, g < w.heap.size := h.Mem.lt
  have ho0 := h.Mem.keep (w' := (w.alloc (.cells #[.slice H.Mem.Heap.Bytes.a H.Mem.Heap.Bytes.len H.Mem.Heap.Bytes.cap, .slice H.Mem.Heap.Class.a H.Mem.Heap.Class.len H.Mem.Heap.Class.cap, .slice H.Mem.Lists.Global.a H.Mem.Lists.Global.len H.Mem.Lists.Global.cap, .slice H.Mem.Lists.Own.a H.Mem.Lists.Own.len H.Mem.Lists.Own.cap, .int .i64 x.Clock.Epoch, .slice H.Clock.Pins.a H.Clock.Pins.len H.Clock.Pins.cap, .slice H.Limbo.a H.Limbo.len H.Limbo.cap, .slice H.Haz.a H.Haz.len H.Haz.cap] 37))) (fun g hg => Below.heap_alloc w _ g (hl0 g hg))
  have hl1 : ∀ g ∈ H.Clock.foot, g < w.heap.size := h.Clock.lt
  have ho1 := h.Clock.keep (w' := (w.alloc (.cells #[.slice H.Mem.Heap.Bytes.a H.Mem.Heap.Bytes.len H.Mem.Heap.Bytes.cap, .slice H.Mem.Heap.Class.a H.Mem.Heap.Class.len H.Mem.Heap.Class.cap, .slice H.Mem.Lists.Global.a H.Mem.Lists.Global.len H.Mem.Lists.Global.cap, .slice H.Mem.Lists.Own.a H.Mem.Lists.Own.len H.Mem.Lists.Own.cap, .int .i64 x.Clock.Epoch, .slice H.Clock.Pins.a H.Clock.Pins.len H.Clock.Pins.cap, .slice H.Limbo.a H.Limbo.len H.Limbo.cap, .slice H.Haz.a H.Haz.len H.Haz.cap] 37))) (fun g hg => Below.heap_alloc w _ g (hl1 g hg))
  have hl2 : ∀ g ∈ foot2 H.Limbo.val H.LimboT, g < w.heap.size := h.Limbo.lt
  have ho2 := h.Limbo.keep (w' := (w.alloc (.cells #[.slice H.Mem.Heap.Bytes.a H.Mem.Heap.Bytes.len H.Mem.Heap.Bytes.cap, .slice H.Mem.Heap.Class.a H.Mem.Heap.Class.len H.Mem.Heap.Class.cap, .slice H.Mem.Lists.Global.a H.Mem.Lists.Global.len H.Mem.Lists.Global.cap, .slice H.Mem.Lists.Own.a H.Mem.Lists.Own.len H.Mem.Lists.Own.cap, .int .i64 x.Clock.Epoch, .slice H.Clock.Pins.a H.Clock.Pins.len H.Clock.Pins.cap, .slice H.Limbo.a H.Limbo.len H.Limbo.cap, .slice H.Haz.a H.Haz.len H.Haz.cap] 37))) (fun g hg => Below.heap_alloc w _ g (hl2 g hg))
  have hl3 : ∀ g ∈ foot1 H.Haz.val, g < w.heap.size := (foot_lt h.Haz)
  have ho3 := h.Haz.keep (w' := (w.alloc (.cells #[.slice H.Mem.Heap.Bytes.a H.Mem.Heap.Bytes.len H.Mem.Heap.Bytes.cap, .slice H.Mem.Heap.Class.a H.Mem.Heap.Class.len H.Mem.Heap.Class.cap, .slice H.Mem.Lists.Global.a H.Mem.Lists.Global.len H.Mem.Lists.Global.cap, .slice H.Mem.Lists.Own.a H.Mem.Lists.Own.len H.Mem.Lists.Own.cap, .int .i64 x.Clock.Epoch, .slice H.Clock.Pins.a H.Clock.Pins.len H.Clock.Pins.cap, .slice H.Limbo.a H.Limbo.len H.Limbo.cap, .slice H.Haz.a H.Haz.len H.Haz.cap] 37))) (fun g hg => Below.heap_alloc w _ g (hl3 g (mem_foot1.2 hg)))
  have hC0 : Chg H.foot w (w.alloc (.cells #[.slice H.Mem.Heap.Bytes.a H.Mem.Heap.Bytes.len H.Mem.Heap.Bytes.cap, .slice H.Mem.Heap.Class.a H.Mem.Heap.Class.len H.Mem.Heap.Class.cap, .slice H.Mem.Lists.Global.a H.Mem.Lists.Global.len H.Mem.Lists.Global.cap, .slice H.Mem.Lists.Own.a H.Mem.Lists.Own.len H.Mem.Lists.Own.cap, .int .i64 x.Clock.Epoch, .slice H.Clock.Pins.a H.Clock.Pins.len H.Clock.Pins.cap, .slice H.Limbo.a H.Limbo.len H.Limbo.cap, .slice H.Haz.a H.Haz.len H.Haz.cap] 37)) := (Chg.refl _ w).alloc_ _
  go_enter Tryz.func35, Tryz.ntmps35
  go_wp2_with fail
  refine (markMem_ct _ H.Mem x.Mem (k) ho0 (by omega) (by have := HK.out; rw [HE.out] at this; omega)).mono ?_
  clear ho0
  rintro e w1 ⟨rfl, ho0, hc⟩
  have ba1 := ba0.chg hc (fun hm => Nat.lt_irrefl _ (hl0 _ hm))
  have hC1 : Chg H.foot w w1 := hC0.trans (hc.mono fun g hg => HBase.mem_foot.2 (.inl hg))
  replace ho1 := ho1.chg hc (fun g hg hm => h.d01 g hm hg)
  replace ho2 := ho2.chg hc (fun g hg hm => h.d02 g hm hg)
  replace ho3 := ho3.chg hc (fun g hg hm => h.d03 g hm hg)
  clear ba0 hc hC0
  have qa0 := ba1.cell 0 _ rfl
  have qa1 := ba1.cell 1 _ rfl
  have qa2 := ba1.cell 2 _ rfl
  have qa3 := ba1.cell 3 _ rfl
  have qa4 := ba1.cell 4 _ rfl
  have qa5 := ba1.cell 5 _ rfl
  have qa6 := ba1.cell 6 _ rfl
  have qa7 := ba1.cell 7 _ rfl
  go_wp2_with fail
  refine (markClock_ct _ H.Clock x.Clock (k + ((nMarkMem x.Mem : Nat) : Int)) ho1 (by omega) (by have := HK.out; rw [HE.out] at this; omega)).mono ?_
  clear ho1
  rintro e w2 ⟨rfl, ho1, hc⟩
  have ba2 := ba1.chg hc (fun hm => Nat.lt_irrefl _ (hl1 _ hm))
  have hC2 : Chg H.foot w w2 := hC1.trans (hc.mono fun g hg => HBase.mem_foot.2 (.inr (.inl hg)))
  replace ho0 := ho0.chg hc (fun g hg hm => h.d01 g hg hm)
  replace ho2 := ho2.chg hc (fun g hg hm => h.d12 g hm hg)
  replace ho3 := ho3.chg hc (fun g hg hm => h.d13 g hm hg)
  clear ba1 hc hC1 qa0 qa1 qa2 qa3 qa4 qa5 qa6 qa7
  have qa0 := ba2.cell 0 _ rfl
  have qa1 := ba2.cell 1 _ rfl
  have qa2 := ba2.cell 2 _ rfl
  have qa3 := ba2.cell 3 _ rfl
  have qa4 := ba2.cell 4 _ rfl
  have qa5 := ba2.cell 5 _ rfl
  have qa6 := ba2.cell 6 _ rfl
  have qa7 := ba2.cell 7 _ rfl
  go_wp2_with fail
  refine (markLListS_w _ H.Limbo H.LimboT x.Limbo (k + ((nMarkMem x.Mem : Nat) : Int) + ((nMarkClock x.Clock : Nat) : Int)) ho2 (by omega) (by have := HK.out; rw [HE.out] at this; omega)).mono ?_
  clear ho2
  rintro e w3 ⟨rfl, ho2, hc⟩
  have ba3 := ba2.chg hc (fun hm => Nat.lt_irrefl _ (hl2 _ hm))
  have hC3 : Chg H.foot w w3 := hC2.trans (hc.mono fun g hg => HBase.mem_foot.2 (.inr (.inr (.inl hg))))
  replace ho0 := ho0.chg hc (fun g hg hm => h.d02 g hg hm)
  replace ho1 := ho1.chg hc (fun g hg hm => h.d12 g hg hm)
  replace ho3 := ho3.chg hc (fun g hg hm => h.d23 g hm hg)
  clear ba2 hc hC2 qa0 qa1 qa2 qa3 qa4 qa5 qa6 qa7
  have qa0 := ba3.cell 0 _ rfl
  have qa1 := ba3.cell 1 _ rfl
  have qa2 := ba3.cell 2 _ rfl
  have qa3 := ba3.cell 3 _ rfl
  have qa4 := ba3.cell 4 _ rfl
  have qa5 := ba3.cell 5 _ rfl
  have qa6 := ba3.cell 6 _ rfl
  have qa7 := ba3.cell 7 _ rfl
  go_wp2_with fail
  refine (markIntS_w _ H.Haz x.Haz (k + ((nMarkMem x.Mem : Nat) : Int) + ((nMarkClock x.Clock : Nat) : Int) + ((totLL x.Limbo * 2 : Nat) : Int)) ho3 (by omega) (by have := HK.out; rw [HE.out] at this; omega)).mono ?_
  clear ho3
  rintro e w4 ⟨rfl, ho3, hc⟩
  have ba4 := ba3.chg hc (fun hm => Nat.lt_irrefl _ (hl3 _ hm))
  have hC4 : Chg H.foot w w4 := hC3.trans (hc.mono fun g hg => HBase.mem_foot.2 (.inr (.inr (.inr (hg)))))
  replace ho0 := ho0.chg hc (fun g hg hm => h.d03 g hg hm)
  replace ho1 := ho1.chg hc (fun g hg hm => h.d13 g hg hm)
  replace ho2 := ho2.chg hc (fun g hg hm => h.d23 g hg hm)
  clear ba3 hc hC3 qa0 qa1 qa2 qa3 qa4 qa5 qa6 qa7
  have qa0 := ba4.cell 0 _ rfl
  have qa1 := ba4.cell 1 _ rfl
  have qa2 := ba4.cell 2 _ rfl
  have qa3 := ba4.cell 3 _ rfl
  have qa4 := ba4.cell 4 _ rfl
  have qa5 := ba4.cell 5 _ rfl
  have qa6 := ba4.cell 6 _ rfl
  have qa7 := ba4.cell 7 _ rfl
  go_wp2
  go_ret
  exact ⟨ret_i64 (by rw [HE.out]; omega), ⟨ho0, ho1, ho2, ho3, h.d01, h.d02, h.d03, h.d12, h.d13, h.d23⟩, hC4⟩
