/-
  Where a slot is: the contracts. How many slots are where: the contracts. What is named, by the program: the contract. Handles that are owned: the contract of the program. Accounted of the program: the contract. Accounted of the reference: the contract. Words for the laws on shelves. FnExactAccounted, walked.
-/
import Derived.Test.YtkldapdpaldbgaaGreatT
import Derived.Test.YtkldapdpaldbgaaGreatL
import Derived.Deep.QuietTactic
import Derived.BigQuiet
import Derived.Deep.LoopGhost
import Derived.Deep.RegionHeld3
import Derived.Test.YtkldapdpaldbgaaGreatN
import Derived.Test.YtkldapdpaldbgaaGreatA
import Derived.WalkSpells
import Derived.Laws.Cover3
import Derived.Test.YtkldapdpaldbgaaGreatUC
import Derived.Test.YtkldapdpaldbgaaGreatUB
import Derived.Test.YtkldapdpaldbgaaGreatVD
import Derived.Test.YtkldapdpaldbgaaGreatVA
import Derived.Deep.CutRange
import Derived.Test.YtkldapdpaldbgaaGreatWS
import Derived.Test.YtkldapdpaldbgaaGreatB3
namespace Go.Proofs.YtkldapdpaldbgaaGreat
open Go.RowKit

def whereB (x : Base) (s : Int) : Int := if stateB x.Mem s = 3 then (if Lim.inLimboB x.Limbo s = true then 3 else 4) else stateB x.Mem s
def whereP (x : Base) (s : Int) : Int := if baseOkB x = true then whereB x s else 0
theorem base_shape {x : Base} (k : baseOkB x = true) : shapeB x.Mem.Heap = true := by
  unfold baseOkB at k
  simp only [Bool.and_eq_true] at k
  exact mem_shape k.1.1.1.1

set_option maxRecDepth 100000 in
set_option maxHeartbeats 2000000 in
theorem where_impl (w : World) (H : HBase) (x : Base) (s : Int) (h : RdBase w w.heap.size H x) (hsh : shapeB x.Mem.Heap = true) (hs : szLL x.Limbo ≤ 536870912) :
    Calls Tryz.prog 54 #[.agg #[.slice H.Mem.Heap.Bytes.a H.Mem.Heap.Bytes.len H.Mem.Heap.Bytes.cap, .slice H.Mem.Heap.Class.a H.Mem.Heap.Class.len H.Mem.Heap.Class.cap, .slice H.Mem.Lists.Global.a H.Mem.Lists.Global.len H.Mem.Lists.Global.cap, .slice H.Mem.Lists.Own.a H.Mem.Lists.Own.len H.Mem.Lists.Own.cap, .int .i64 x.Clock.Epoch, .slice H.Clock.Pins.a H.Clock.Pins.len H.Clock.Pins.cap, .slice H.Limbo.a H.Limbo.len H.Limbo.cap, .slice H.Haz.a H.Haz.len H.Haz.cap], .int .i64 s] w fun e w' => e = .returned (.int .i64 (whereB x s)) ∧ Below w.heap.size w w' := by
  have k0 := fun (W : World) (hW : Below w.heap.size w W) => stateOf_impl W H.Mem x.Mem s (rdMem_up h.Mem hW) hsh
  have k1 := fun (W : World) (hW : Below w.heap.size w W) => Lim.InLimbo_impl W _ _ x.Limbo s (rdLL_up h.Limbo hW) (by omega)
  have HV : Hid (whereB x s = if stateB x.Mem s = 3 then (if Lim.inLimboB x.Limbo s = true then 3 else 4) else stateB x.Mem s) := Hid.mk_ rfl
  generalize stateB x.Mem s = st at k0 HV
  generalize Lim.inLimboB x.Limbo s = il at k1 HV
  by_cases k3 : st = 3
  case neg =>
    replace HV : Hid (whereB x s = st) := Hid.mk_ (HV.out.trans (if_neg k3))
    have k3' : (st == 3) = false := by simpa using k3
    have k3'' : (st != 3) = true := by simpa using k3
    clear k3
    have B_a : Box (w.alloc (.cells #[.slice H.Mem.Heap.Bytes.a H.Mem.Heap.Bytes.len H.Mem.Heap.Bytes.cap, .slice H.Mem.Heap.Class.a H.Mem.Heap.Class.len H.Mem.Heap.Class.cap, .slice H.Mem.Lists.Global.a H.Mem.Lists.Global.len H.Mem.Lists.Global.cap, .slice H.Mem.Lists.Own.a H.Mem.Lists.Own.len H.Mem.Lists.Own.cap, .int .i64 x.Clock.Epoch, .slice H.Clock.Pins.a H.Clock.Pins.len H.Clock.Pins.cap, .slice H.Limbo.a H.Limbo.len H.Limbo.cap, .slice H.Haz.a H.Haz.len H.Haz.cap] 37)) (w.heap.size) [.slice H.Mem.Heap.Bytes.a H.Mem.Heap.Bytes.len H.Mem.Heap.Bytes.cap, .slice H.Mem.Heap.Class.a H.Mem.Heap.Class.len H.Mem.Heap.Class.cap, .slice H.Mem.Lists.Global.a H.Mem.Lists.Global.len H.Mem.Lists.Global.cap, .slice H.Mem.Lists.Own.a H.Mem.Lists.Own.len H.Mem.Lists.Own.cap, .int .i64 x.Clock.Epoch, .slice H.Clock.Pins.a H.Clock.Pins.len H.Clock.Pins.cap, .slice H.Limbo.a H.Limbo.len H.Limbo.cap, .slice H.Haz.a H.Haz.len H.Haz.cap] := by
      have hbx := Box.new w #[.slice H.Mem.Heap.Bytes.a H.Mem.Heap.Bytes.len H.Mem.Heap.Bytes.cap, .slice H.Mem.Heap.Class.a H.Mem.Heap.Class.len H.Mem.Heap.Class.cap, .slice H.Mem.Lists.Global.a H.Mem.Lists.Global.len H.Mem.Lists.Global.cap, .slice H.Mem.Lists.Own.a H.Mem.Lists.Own.len H.Mem.Lists.Own.cap, .int .i64 x.Clock.Epoch, .slice H.Clock.Pins.a H.Clock.Pins.len H.Clock.Pins.cap, .slice H.Limbo.a H.Limbo.len H.Limbo.cap, .slice H.Haz.a H.Haz.len H.Haz.cap] 37
      exact hbx
    have hB : Below w.heap.size w (w.alloc (.cells #[.slice H.Mem.Heap.Bytes.a H.Mem.Heap.Bytes.len H.Mem.Heap.Bytes.cap, .slice H.Mem.Heap.Class.a H.Mem.Heap.Class.len H.Mem.Heap.Class.cap, .slice H.Mem.Lists.Global.a H.Mem.Lists.Global.len H.Mem.Lists.Global.cap, .slice H.Mem.Lists.Own.a H.Mem.Lists.Own.len H.Mem.Lists.Own.cap, .int .i64 x.Clock.Epoch, .slice H.Clock.Pins.a H.Clock.Pins.len H.Clock.Pins.cap, .slice H.Limbo.a H.Limbo.len H.Limbo.cap, .slice H.Haz.a H.Haz.len H.Haz.cap] 37)) := by repeat (first | exact Below.refl _ _ | refine Below.alloc ?_ (by simp <;> omega) _ | refine below_grow_of ?_ (by simp <;> omega) _ _ | refine Below.drew ?_ | refine below_drewN ?_ _)
    go_enter Tryz.func54, Tryz.ntmps54
    go_wp2_with fail
    generalize hW0 : (w.alloc (.cells #[.slice H.Mem.Heap.Bytes.a H.Mem.Heap.Bytes.len H.Mem.Heap.Bytes.cap, .slice H.Mem.Heap.Class.a H.Mem.Heap.Class.len H.Mem.Heap.Class.cap, .slice H.Mem.Lists.Global.a H.Mem.Lists.Global.len H.Mem.Lists.Global.cap, .slice H.Mem.Lists.Own.a H.Mem.Lists.Own.len H.Mem.Lists.Own.cap, .int .i64 x.Clock.Epoch, .slice H.Clock.Pins.a H.Clock.Pins.len H.Clock.Pins.cap, .slice H.Limbo.a H.Limbo.len H.Limbo.cap, .slice H.Haz.a H.Haz.len H.Haz.cap] 37)) = w0 at B_a hB ⊢
    clear hW0
    have zz_a := B_a.lt
    have q_a_0 := B_a.cell 0 _ rfl
    have q_a_1 := B_a.cell 1 _ rfl
    have q_a_2 := B_a.cell 2 _ rfl
    have q_a_3 := B_a.cell 3 _ rfl
    have q_a_4 := B_a.cell 4 _ rfl
    have q_a_5 := B_a.cell 5 _ rfl
    have q_a_6 := B_a.cell 6 _ rfl
    have q_a_7 := B_a.cell 7 _ rfl
    have fr_a := B_a.fro
    have z_a := B_a.lt
    refine (k0 _ hB).mono ?_
    rintro e w1 ⟨rfl, hb⟩
    replace B_a := B_a.below hb
    replace hB := hB.trans (hb.mono hB.size)
    have sz := hb.size
    clear hb
    replace q_a_0 := B_a.cell 0 _ rfl
    replace q_a_1 := B_a.cell 1 _ rfl
    replace q_a_2 := B_a.cell 2 _ rfl
    replace q_a_3 := B_a.cell 3 _ rfl
    replace q_a_4 := B_a.cell 4 _ rfl
    replace q_a_5 := B_a.cell 5 _ rfl
    replace q_a_6 := B_a.cell 6 _ rfl
    replace q_a_7 := B_a.cell 7 _ rfl
    replace fr_a := B_a.fro
    replace z_a := B_a.lt
    clear k0
    go_wp2_with fail
    go_ret
    exact ⟨ret_i64 HV.out.symm, by first | exact hB | exact hB.drew⟩
  subst k3
  cases il with
  | true =>
    replace HV : Hid (whereB x s = 3) := Hid.mk_ HV.out
    have B_a : Box (w.alloc (.cells #[.slice H.Mem.Heap.Bytes.a H.Mem.Heap.Bytes.len H.Mem.Heap.Bytes.cap, .slice H.Mem.Heap.Class.a H.Mem.Heap.Class.len H.Mem.Heap.Class.cap, .slice H.Mem.Lists.Global.a H.Mem.Lists.Global.len H.Mem.Lists.Global.cap, .slice H.Mem.Lists.Own.a H.Mem.Lists.Own.len H.Mem.Lists.Own.cap, .int .i64 x.Clock.Epoch, .slice H.Clock.Pins.a H.Clock.Pins.len H.Clock.Pins.cap, .slice H.Limbo.a H.Limbo.len H.Limbo.cap, .slice H.Haz.a H.Haz.len H.Haz.cap] 37)) (w.heap.size) [.slice H.Mem.Heap.Bytes.a H.Mem.Heap.Bytes.len H.Mem.Heap.Bytes.cap, .slice H.Mem.Heap.Class.a H.Mem.Heap.Class.len H.Mem.Heap.Class.cap, .slice H.Mem.Lists.Global.a H.Mem.Lists.Global.len H.Mem.Lists.Global.cap, .slice H.Mem.Lists.Own.a H.Mem.Lists.Own.len H.Mem.Lists.Own.cap, .int .i64 x.Clock.Epoch, .slice H.Clock.Pins.a H.Clock.Pins.len H.Clock.Pins.cap, .slice H.Limbo.a H.Limbo.len H.Limbo.cap, .slice H.Haz.a H.Haz.len H.Haz.cap] := by
      have hbx := Box.new w #[.slice H.Mem.Heap.Bytes.a H.Mem.Heap.Bytes.len H.Mem.Heap.Bytes.cap, .slice H.Mem.Heap.Class.a H.Mem.Heap.Class.len H.Mem.Heap.Class.cap, .slice H.Mem.Lists.Global.a H.Mem.Lists.Global.len H.Mem.Lists.Global.cap, .slice H.Mem.Lists.Own.a H.Mem.Lists.Own.len H.Mem.Lists.Own.cap, .int .i64 x.Clock.Epoch, .slice H.Clock.Pins.a H.Clock.Pins.len H.Clock.Pins.cap, .slice H.Limbo.a H.Limbo.len H.Limbo.cap, .slice H.Haz.a H.Haz.len H.Haz.cap] 37
      exact hbx
    have hB : Below w.heap.size w (w.alloc (.cells #[.slice H.Mem.Heap.Bytes.a H.Mem.Heap.Bytes.len H.Mem.Heap.Bytes.cap, .slice H.Mem.Heap.Class.a H.Mem.Heap.Class.len H.Mem.Heap.Class.cap, .slice H.Mem.Lists.Global.a H.Mem.Lists.Global.len H.Mem.Lists.Global.cap, .slice H.Mem.Lists.Own.a H.Mem.Lists.Own.len H.Mem.Lists.Own.cap, .int .i64 x.Clock.Epoch, .slice H.Clock.Pins.a H.Clock.Pins.len H.Clock.Pins.cap, .slice H.Limbo.a H.Limbo.len H.Limbo.cap, .slice H.Haz.a H.Haz.len H.Haz.cap] 37)) := by repeat (first | exact Below.refl _ _ | refine Below.alloc ?_ (by simp <;> omega) _ | refine below_grow_of ?_ (by simp <;> omega) _ _ | refine Below.drew ?_ | refine below_drewN ?_ _)
    go_enter Tryz.func54, Tryz.ntmps54
    go_wp2_with fail
    generalize hW0 : (w.alloc (.cells #[.slice H.Mem.Heap.Bytes.a H.Mem.Heap.Bytes.len H.Mem.Heap.Bytes.cap, .slice H.Mem.Heap.Class.a H.Mem.Heap.Class.len H.Mem.Heap.Class.cap, .slice H.Mem.Lists.Global.a H.Mem.Lists.Global.len H.Mem.Lists.Global.cap, .slice H.Mem.Lists.Own.a H.Mem.Lists.Own.len H.Mem.Lists.Own.cap, .int .i64 x.Clock.Epoch, .slice H.Clock.Pins.a H.Clock.Pins.len H.Clock.Pins.cap, .slice H.Limbo.a H.Limbo.len H.Limbo.cap, .slice H.Haz.a H.Haz.len H.Haz.cap] 37)) = w0 at B_a hB ⊢
    clear hW0
    have zz_a := B_a.lt
    have q_a_0 := B_a.cell 0 _ rfl
    have q_a_1 := B_a.cell 1 _ rfl
    have q_a_2 := B_a.cell 2 _ rfl
    have q_a_3 := B_a.cell 3 _ rfl
    have q_a_4 := B_a.cell 4 _ rfl
    have q_a_5 := B_a.cell 5 _ rfl
    have q_a_6 := B_a.cell 6 _ rfl
    have q_a_7 := B_a.cell 7 _ rfl
    have fr_a := B_a.fro
    have z_a := B_a.lt
    refine (k0 _ hB).mono ?_
    rintro e w1 ⟨rfl, hb⟩
    replace B_a := B_a.below hb
    replace hB := hB.trans (hb.mono hB.size)
    have sz := hb.size
    clear hb
    replace q_a_0 := B_a.cell 0 _ rfl
    replace q_a_1 := B_a.cell 1 _ rfl
    replace q_a_2 := B_a.cell 2 _ rfl
    replace q_a_3 := B_a.cell 3 _ rfl
    replace q_a_4 := B_a.cell 4 _ rfl
    replace q_a_5 := B_a.cell 5 _ rfl
    replace q_a_6 := B_a.cell 6 _ rfl
    replace q_a_7 := B_a.cell 7 _ rfl
    replace fr_a := B_a.fro
    replace z_a := B_a.lt
    clear k0
    go_wp2_with fail
    refine (k1 _ hB).mono ?_
    rintro e w2 ⟨rfl, hb⟩
    replace B_a := B_a.below hb
    replace hB := hB.trans (hb.mono hB.size)
    have sz := hb.size
    clear hb
    replace q_a_0 := B_a.cell 0 _ rfl
    replace q_a_1 := B_a.cell 1 _ rfl
    replace q_a_2 := B_a.cell 2 _ rfl
    replace q_a_3 := B_a.cell 3 _ rfl
    replace q_a_4 := B_a.cell 4 _ rfl
    replace q_a_5 := B_a.cell 5 _ rfl
    replace q_a_6 := B_a.cell 6 _ rfl
    replace q_a_7 := B_a.cell 7 _ rfl
    replace fr_a := B_a.fro
    replace z_a := B_a.lt
    clear k1
    go_wp2_with fail
    go_ret
    exact ⟨ret_i64 HV.out.symm, by first | exact hB | exact hB.drew⟩
  | false =>
    replace HV : Hid (whereB x s = 4) := Hid.mk_ HV.out
    have B_a : Box (w.alloc (.cells #[.slice H.Mem.Heap.Bytes.a H.Mem.Heap.Bytes.len H.Mem.Heap.Bytes.cap, .slice H.Mem.Heap.Class.a H.Mem.Heap.Class.len H.Mem.Heap.Class.cap, .slice H.Mem.Lists.Global.a H.Mem.Lists.Global.len H.Mem.Lists.Global.cap, .slice H.Mem.Lists.Own.a H.Mem.Lists.Own.len H.Mem.Lists.Own.cap, .int .i64 x.Clock.Epoch, .slice H.Clock.Pins.a H.Clock.Pins.len H.Clock.Pins.cap, .slice H.Limbo.a H.Limbo.len H.Limbo.cap, .slice H.Haz.a H.Haz.len H.Haz.cap] 37)) (w.heap.size) [.slice H.Mem.Heap.Bytes.a H.Mem.Heap.Bytes.len H.Mem.Heap.Bytes.cap, .slice H.Mem.Heap.Class.a H.Mem.Heap.Class.len H.Mem.Heap.Class.cap, .slice H.Mem.Lists.Global.a H.Mem.Lists.Global.len H.Mem.Lists.Global.cap, .slice H.Mem.Lists.Own.a H.Mem.Lists.Own.len H.Mem.Lists.Own.cap, .int .i64 x.Clock.Epoch, .slice H.Clock.Pins.a H.Clock.Pins.len H.Clock.Pins.cap, .slice H.Limbo.a H.Limbo.len H.Limbo.cap, .slice H.Haz.a H.Haz.len H.Haz.cap] := by
      have hbx := Box.new w #[.slice H.Mem.Heap.Bytes.a H.Mem.Heap.Bytes.len H.Mem.Heap.Bytes.cap, .slice H.Mem.Heap.Class.a H.Mem.Heap.Class.len H.Mem.Heap.Class.cap, .slice H.Mem.Lists.Global.a H.Mem.Lists.Global.len H.Mem.Lists.Global.cap, .slice H.Mem.Lists.Own.a H.Mem.Lists.Own.len H.Mem.Lists.Own.cap, .int .i64 x.Clock.Epoch, .slice H.Clock.Pins.a H.Clock.Pins.len H.Clock.Pins.cap, .slice H.Limbo.a H.Limbo.len H.Limbo.cap, .slice H.Haz.a H.Haz.len H.Haz.cap] 37
      exact hbx
    have hB : Below w.heap.size w (w.alloc (.cells #[.slice H.Mem.Heap.Bytes.a H.Mem.Heap.Bytes.len H.Mem.Heap.Bytes.cap, .slice H.Mem.Heap.Class.a H.Mem.Heap.Class.len H.Mem.Heap.Class.cap, .slice H.Mem.Lists.Global.a H.Mem.Lists.Global.len H.Mem.Lists.Global.cap, .slice H.Mem.Lists.Own.a H.Mem.Lists.Own.len H.Mem.Lists.Own.cap, .int .i64 x.Clock.Epoch, .slice H.Clock.Pins.a H.Clock.Pins.len H.Clock.Pins.cap, .slice H.Limbo.a H.Limbo.len H.Limbo.cap, .slice H.Haz.a H.Haz.len H.Haz.cap] 37)) := by repeat (first | exact Below.refl _ _ | refine Below.alloc ?_ (by simp <;> omega) _ | refine below_grow_of ?_ (by simp <;> omega) _ _ | refine Below.drew ?_ | refine below_drewN ?_ _)
    go_enter Tryz.func54, Tryz.ntmps54
    go_wp2_with fail
    generalize hW0 : (w.alloc (.cells #[.slice H.Mem.Heap.Bytes.a H.Mem.Heap.Bytes.len H.Mem.Heap.Bytes.cap, .slice H.Mem.Heap.Class.a H.Mem.Heap.Class.len H.Mem.Heap.Class.cap, .slice H.Mem.Lists.Global.a H.Mem.Lists.Global.len H.Mem.Lists.Global.cap, .slice H.Mem.Lists.Own.a H.Mem.Lists.Own.len H.Mem.Lists.Own.cap, .int .i64 x.Clock.Epoch, .slice H.Clock.Pins.a H.Clock.Pins.len H.Clock.Pins.cap, .slice H.Limbo.a H.Limbo.len H.Limbo.cap, .slice H.Haz.a H.Haz.len H.Haz.cap] 37)) = w0 at B_a hB ⊢
    clear hW0
    have zz_a := B_a.lt
    have q_a_0 := B_a.cell 0 _ rfl
    have q_a_1 := B_a.cell 1 _ rfl
    have q_a_2 := B_a.cell 2 _ rfl
    have q_a_3 := B_a.cell 3 _ rfl
    have q_a_4 := B_a.cell 4 _ rfl
    have q_a_5 := B_a.cell 5 _ rfl
    have q_a_6 := B_a.cell 6 _ rfl
    have q_a_7 := B_a.cell 7 _ rfl
    have fr_a := B_a.fro
    have z_a := B_a.lt
    refine (k0 _ hB).mono ?_
    rintro e w1 ⟨rfl, hb⟩
    replace B_a := B_a.below hb
    replace hB := hB.trans (hb.mono hB.size)
    have sz := hb.size
    clear hb
    replace q_a_0 := B_a.cell 0 _ rfl
    replace q_a_1 := B_a.cell 1 _ rfl
    replace q_a_2 := B_a.cell 2 _ rfl
    replace q_a_3 := B_a.cell 3 _ rfl
    replace q_a_4 := B_a.cell 4 _ rfl
    replace q_a_5 := B_a.cell 5 _ rfl
    replace q_a_6 := B_a.cell 6 _ rfl
    replace q_a_7 := B_a.cell 7 _ rfl
    replace fr_a := B_a.fro
    replace z_a := B_a.lt
    clear k0
    go_wp2_with fail
    refine (k1 _ hB).mono ?_
    rintro e w2 ⟨rfl, hb⟩
    replace B_a := B_a.below hb
    replace hB := hB.trans (hb.mono hB.size)
    have sz := hb.size
    clear hb
    replace q_a_0 := B_a.cell 0 _ rfl
    replace q_a_1 := B_a.cell 1 _ rfl
    replace q_a_2 := B_a.cell 2 _ rfl
    replace q_a_3 := B_a.cell 3 _ rfl
    replace q_a_4 := B_a.cell 4 _ rfl
    replace q_a_5 := B_a.cell 5 _ rfl
    replace q_a_6 := B_a.cell 6 _ rfl
    replace q_a_7 := B_a.cell 7 _ rfl
    replace fr_a := B_a.fro
    replace z_a := B_a.lt
    clear k1
    go_wp2_with fail
    go_ret
    exact ⟨ret_i64 HV.out.symm, by first | exact hB | exact hB.drew⟩

set_option maxRecDepth 100000 in
set_option maxHeartbeats 2000000 in
theorem l13Where_spec (w : World) (H : HBase) (x : Base) (s : Int) (h : RdBase w w.heap.size H x) (hsh : shapeB x.Mem.Heap = true) (hs : szLL x.Limbo ≤ 536870912) (hs1 : szLL x.Mem.Lists.Global ≤ 536870912) (hs2 : szLL x.Mem.Lists.Own ≤ 536870912) :
    Calls Tryz.prog 99 #[.agg #[.slice H.Mem.Heap.Bytes.a H.Mem.Heap.Bytes.len H.Mem.Heap.Bytes.cap, .slice H.Mem.Heap.Class.a H.Mem.Heap.Class.len H.Mem.Heap.Class.cap, .slice H.Mem.Lists.Global.a H.Mem.Lists.Global.len H.Mem.Lists.Global.cap, .slice H.Mem.Lists.Own.a H.Mem.Lists.Own.len H.Mem.Lists.Own.cap, .int .i64 x.Clock.Epoch, .slice H.Clock.Pins.a H.Clock.Pins.len H.Clock.Pins.cap, .slice H.Limbo.a H.Limbo.len H.Limbo.cap, .slice H.Haz.a H.Haz.len H.Haz.cap], .int .i64 s] w fun e w' => e = .returned (.int .i64 (whereB x s)) ∧ Below w.heap.size w w' := by
  have k0 := fun (W : World) (hW : Below w.heap.size w W) => l9State_spec W H.Mem x.Mem s (rdMem_up h.Mem hW) hsh hs1 hs2
  have k1 := fun (W : World) (hW : Below w.heap.size w W) => Lim.InLimbo_spec W _ _ x.Limbo s (rdLL_up h.Limbo hW) (by omega)
  have HV : Hid (whereB x s = if stateB x.Mem s = 3 then (if Lim.inLimboB x.Limbo s = true then 3 else 4) else stateB x.Mem s) := Hid.mk_ rfl
  generalize stateB x.Mem s = st at k0 HV
  generalize Lim.inLimboB x.Limbo s = il at k1 HV
  by_cases k3 : st = 3
  case neg =>
    replace HV : Hid (whereB x s = st) := Hid.mk_ (HV.out.trans (if_neg k3))
    have k3' : (st == 3) = false := by simpa using k3
    have k3'' : (st != 3) = true := by simpa using k3
    clear k3
    have B_a : Box (w.alloc (.cells #[.slice H.Mem.Heap.Bytes.a H.Mem.Heap.Bytes.len H.Mem.Heap.Bytes.cap, .slice H.Mem.Heap.Class.a H.Mem.Heap.Class.len H.Mem.Heap.Class.cap, .slice H.Mem.Lists.Global.a H.Mem.Lists.Global.len H.Mem.Lists.Global.cap, .slice H.Mem.Lists.Own.a H.Mem.Lists.Own.len H.Mem.Lists.Own.cap, .int .i64 x.Clock.Epoch, .slice H.Clock.Pins.a H.Clock.Pins.len H.Clock.Pins.cap, .slice H.Limbo.a H.Limbo.len H.Limbo.cap, .slice H.Haz.a H.Haz.len H.Haz.cap] 37)) (w.heap.size) [.slice H.Mem.Heap.Bytes.a H.Mem.Heap.Bytes.len H.Mem.Heap.Bytes.cap, .slice H.Mem.Heap.Class.a H.Mem.Heap.Class.len H.Mem.Heap.Class.cap, .slice H.Mem.Lists.Global.a H.Mem.Lists.Global.len H.Mem.Lists.Global.cap, .slice H.Mem.Lists.Own.a H.Mem.Lists.Own.len H.Mem.Lists.Own.cap, .int .i64 x.Clock.Epoch, .slice H.Clock.Pins.a H.Clock.Pins.len H.Clock.Pins.cap, .slice H.Limbo.a H.Limbo.len H.Limbo.cap, .slice H.Haz.a H.Haz.len H.Haz.cap] := by
      have hbx := Box.new w #[.slice H.Mem.Heap.Bytes.a H.Mem.Heap.Bytes.len H.Mem.Heap.Bytes.cap, .slice H.Mem.Heap.Class.a H.Mem.Heap.Class.len H.Mem.Heap.Class.cap, .slice H.Mem.Lists.Global.a H.Mem.Lists.Global.len H.Mem.Lists.Global.cap, .slice H.Mem.Lists.Own.a H.Mem.Lists.Own.len H.Mem.Lists.Own.cap, .int .i64 x.Clock.Epoch, .slice H.Clock.Pins.a H.Clock.Pins.len H.Clock.Pins.cap, .slice H.Limbo.a H.Limbo.len H.Limbo.cap, .slice H.Haz.a H.Haz.len H.Haz.cap] 37
      exact hbx
    have hB : Below w.heap.size w (w.alloc (.cells #[.slice H.Mem.Heap.Bytes.a H.Mem.Heap.Bytes.len H.Mem.Heap.Bytes.cap, .slice H.Mem.Heap.Class.a H.Mem.Heap.Class.len H.Mem.Heap.Class.cap, .slice H.Mem.Lists.Global.a H.Mem.Lists.Global.len H.Mem.Lists.Global.cap, .slice H.Mem.Lists.Own.a H.Mem.Lists.Own.len H.Mem.Lists.Own.cap, .int .i64 x.Clock.Epoch, .slice H.Clock.Pins.a H.Clock.Pins.len H.Clock.Pins.cap, .slice H.Limbo.a H.Limbo.len H.Limbo.cap, .slice H.Haz.a H.Haz.len H.Haz.cap] 37)) := by repeat (first | exact Below.refl _ _ | refine Below.alloc ?_ (by simp <;> omega) _ | refine below_grow_of ?_ (by simp <;> omega) _ _ | refine Below.drew ?_ | refine below_drewN ?_ _)
    go_enter Tryz.func99, Tryz.ntmps99
    go_wp2_with fail
    generalize hW0 : (w.alloc (.cells #[.slice H.Mem.Heap.Bytes.a H.Mem.Heap.Bytes.len H.Mem.Heap.Bytes.cap, .slice H.Mem.Heap.Class.a H.Mem.Heap.Class.len H.Mem.Heap.Class.cap, .slice H.Mem.Lists.Global.a H.Mem.Lists.Global.len H.Mem.Lists.Global.cap, .slice H.Mem.Lists.Own.a H.Mem.Lists.Own.len H.Mem.Lists.Own.cap, .int .i64 x.Clock.Epoch, .slice H.Clock.Pins.a H.Clock.Pins.len H.Clock.Pins.cap, .slice H.Limbo.a H.Limbo.len H.Limbo.cap, .slice H.Haz.a H.Haz.len H.Haz.cap] 37)) = w0 at B_a hB ⊢
    clear hW0
    have zz_a := B_a.lt
    have q_a_0 := B_a.cell 0 _ rfl
    have q_a_1 := B_a.cell 1 _ rfl
    have q_a_2 := B_a.cell 2 _ rfl
    have q_a_3 := B_a.cell 3 _ rfl
    have q_a_4 := B_a.cell 4 _ rfl
    have q_a_5 := B_a.cell 5 _ rfl
    have q_a_6 := B_a.cell 6 _ rfl
    have q_a_7 := B_a.cell 7 _ rfl
    have fr_a := B_a.fro
    have z_a := B_a.lt
    refine (k0 _ hB).mono ?_
    rintro e w1 ⟨rfl, hb⟩
    replace B_a := B_a.below hb
    replace hB := hB.trans (hb.mono hB.size)
    have sz := hb.size
    clear hb
    replace q_a_0 := B_a.cell 0 _ rfl
    replace q_a_1 := B_a.cell 1 _ rfl
    replace q_a_2 := B_a.cell 2 _ rfl
    replace q_a_3 := B_a.cell 3 _ rfl
    replace q_a_4 := B_a.cell 4 _ rfl
    replace q_a_5 := B_a.cell 5 _ rfl
    replace q_a_6 := B_a.cell 6 _ rfl
    replace q_a_7 := B_a.cell 7 _ rfl
    replace fr_a := B_a.fro
    replace z_a := B_a.lt
    clear k0
    go_wp2_with fail
    go_ret
    exact ⟨ret_i64 HV.out.symm, by first | exact hB | exact hB.drew⟩
  subst k3
  cases il with
  | true =>
    replace HV : Hid (whereB x s = 3) := Hid.mk_ HV.out
    have B_a : Box (w.alloc (.cells #[.slice H.Mem.Heap.Bytes.a H.Mem.Heap.Bytes.len H.Mem.Heap.Bytes.cap, .slice H.Mem.Heap.Class.a H.Mem.Heap.Class.len H.Mem.Heap.Class.cap, .slice H.Mem.Lists.Global.a H.Mem.Lists.Global.len H.Mem.Lists.Global.cap, .slice H.Mem.Lists.Own.a H.Mem.Lists.Own.len H.Mem.Lists.Own.cap, .int .i64 x.Clock.Epoch, .slice H.Clock.Pins.a H.Clock.Pins.len H.Clock.Pins.cap, .slice H.Limbo.a H.Limbo.len H.Limbo.cap, .slice H.Haz.a H.Haz.len H.Haz.cap] 37)) (w.heap.size) [.slice H.Mem.Heap.Bytes.a H.Mem.Heap.Bytes.len H.Mem.Heap.Bytes.cap, .slice H.Mem.Heap.Class.a H.Mem.Heap.Class.len H.Mem.Heap.Class.cap, .slice H.Mem.Lists.Global.a H.Mem.Lists.Global.len H.Mem.Lists.Global.cap, .slice H.Mem.Lists.Own.a H.Mem.Lists.Own.len H.Mem.Lists.Own.cap, .int .i64 x.Clock.Epoch, .slice H.Clock.Pins.a H.Clock.Pins.len H.Clock.Pins.cap, .slice H.Limbo.a H.Limbo.len H.Limbo.cap, .slice H.Haz.a H.Haz.len H.Haz.cap] := by
      have hbx := Box.new w #[.slice H.Mem.Heap.Bytes.a H.Mem.Heap.Bytes.len H.Mem.Heap.Bytes.cap, .slice H.Mem.Heap.Class.a H.Mem.Heap.Class.len H.Mem.Heap.Class.cap, .slice H.Mem.Lists.Global.a H.Mem.Lists.Global.len H.Mem.Lists.Global.cap, .slice H.Mem.Lists.Own.a H.Mem.Lists.Own.len H.Mem.Lists.Own.cap, .int .i64 x.Clock.Epoch, .slice H.Clock.Pins.a H.Clock.Pins.len H.Clock.Pins.cap, .slice H.Limbo.a H.Limbo.len H.Limbo.cap, .slice H.Haz.a H.Haz.len H.Haz.cap] 37
      exact hbx
    have hB : Below w.heap.size w (w.alloc (.cells #[.slice H.Mem.Heap.Bytes.a H.Mem.Heap.Bytes.len H.Mem.Heap.Bytes.cap, .slice H.Mem.Heap.Class.a H.Mem.Heap.Class.len H.Mem.Heap.Class.cap, .slice H.Mem.Lists.Global.a H.Mem.Lists.Global.len H.Mem.Lists.Global.cap, .slice H.Mem.Lists.Own.a H.Mem.Lists.Own.len H.Mem.Lists.Own.cap, .int .i64 x.Clock.Epoch, .slice H.Clock.Pins.a H.Clock.Pins.len H.Clock.Pins.cap, .slice H.Limbo.a H.Limbo.len H.Limbo.cap, .slice H.Haz.a H.Haz.len H.Haz.cap] 37)) := by repeat (first | exact Below.refl _ _ | refine Below.alloc ?_ (by simp <;> omega) _ | refine below_grow_of ?_ (by simp <;> omega) _ _ | refine Below.drew ?_ | refine below_drewN ?_ _)
    go_enter Tryz.func99, Tryz.ntmps99
    go_wp2_with fail
    generalize hW0 : (w.alloc (.cells #[.slice H.Mem.Heap.Bytes.a H.Mem.Heap.Bytes.len H.Mem.Heap.Bytes.cap, .slice H.Mem.Heap.Class.a H.Mem.Heap.Class.len H.Mem.Heap.Class.cap, .slice H.Mem.Lists.Global.a H.Mem.Lists.Global.len H.Mem.Lists.Global.cap, .slice H.Mem.Lists.Own.a H.Mem.Lists.Own.len H.Mem.Lists.Own.cap, .int .i64 x.Clock.Epoch, .slice H.Clock.Pins.a H.Clock.Pins.len H.Clock.Pins.cap, .slice H.Limbo.a H.Limbo.len H.Limbo.cap, .slice H.Haz.a H.Haz.len H.Haz.cap] 37)) = w0 at B_a hB ⊢
    clear hW0
    have zz_a := B_a.lt
    have q_a_0 := B_a.cell 0 _ rfl
    have q_a_1 := B_a.cell 1 _ rfl
    have q_a_2 := B_a.cell 2 _ rfl
    have q_a_3 := B_a.cell 3 _ rfl
    have q_a_4 := B_a.cell 4 _ rfl
    have q_a_5 := B_a.cell 5 _ rfl
    have q_a_6 := B_a.cell 6 _ rfl
    have q_a_7 := B_a.cell 7 _ rfl
    have fr_a := B_a.fro
    have z_a := B_a.lt
    refine (k0 _ hB).mono ?_
    rintro e w1 ⟨rfl, hb⟩
    replace B_a := B_a.below hb
    replace hB := hB.trans (hb.mono hB.size)
    have sz := hb.size
    clear hb
    replace q_a_0 := B_a.cell 0 _ rfl
    replace q_a_1 := B_a.cell 1 _ rfl
    replace q_a_2 := B_a.cell 2 _ rfl
    replace q_a_3 := B_a.cell 3 _ rfl
    replace q_a_4 := B_a.cell 4 _ rfl
    replace q_a_5 := B_a.cell 5 _ rfl
    replace q_a_6 := B_a.cell 6 _ rfl
    replace q_a_7 := B_a.cell 7 _ rfl
    replace fr_a := B_a.fro
    replace z_a := B_a.lt
    clear k0
    go_wp2_with fail
    refine (k1 _ hB).mono ?_
    rintro e w2 ⟨rfl, hb⟩
    replace B_a := B_a.below hb
    replace hB := hB.trans (hb.mono hB.size)
    have sz := hb.size
    clear hb
    replace q_a_0 := B_a.cell 0 _ rfl
    replace q_a_1 := B_a.cell 1 _ rfl
    replace q_a_2 := B_a.cell 2 _ rfl
    replace q_a_3 := B_a.cell 3 _ rfl
    replace q_a_4 := B_a.cell 4 _ rfl
    replace q_a_5 := B_a.cell 5 _ rfl
    replace q_a_6 := B_a.cell 6 _ rfl
    replace q_a_7 := B_a.cell 7 _ rfl
    replace fr_a := B_a.fro
    replace z_a := B_a.lt
    clear k1
    go_wp2_with fail
    go_ret
    exact ⟨ret_i64 HV.out.symm, by first | exact hB | exact hB.drew⟩
  | false =>
    replace HV : Hid (whereB x s = 4) := Hid.mk_ HV.out
    have B_a : Box (w.alloc (.cells #[.slice H.Mem.Heap.Bytes.a H.Mem.Heap.Bytes.len H.Mem.Heap.Bytes.cap, .slice H.Mem.Heap.Class.a H.Mem.Heap.Class.len H.Mem.Heap.Class.cap, .slice H.Mem.Lists.Global.a H.Mem.Lists.Global.len H.Mem.Lists.Global.cap, .slice H.Mem.Lists.Own.a H.Mem.Lists.Own.len H.Mem.Lists.Own.cap, .int .i64 x.Clock.Epoch, .slice H.Clock.Pins.a H.Clock.Pins.len H.Clock.Pins.cap, .slice H.Limbo.a H.Limbo.len H.Limbo.cap, .slice H.Haz.a H.Haz.len H.Haz.cap] 37)) (w.heap.size) [.slice H.Mem.Heap.Bytes.a H.Mem.Heap.Bytes.len H.Mem.Heap.Bytes.cap, .slice H.Mem.Heap.Class.a H.Mem.Heap.Class.len H.Mem.Heap.Class.cap, .slice H.Mem.Lists.Global.a H.Mem.Lists.Global.len H.Mem.Lists.Global.cap, .slice H.Mem.Lists.Own.a H.Mem.Lists.Own.len H.Mem.Lists.Own.cap, .int .i64 x.Clock.Epoch, .slice H.Clock.Pins.a H.Clock.Pins.len H.Clock.Pins.cap, .slice H.Limbo.a H.Limbo.len H.Limbo.cap, .slice H.Haz.a H.Haz.len H.Haz.cap] := by
      have hbx := Box.new w #[.slice H.Mem.Heap.Bytes.a H.Mem.Heap.Bytes.len H.Mem.Heap.Bytes.cap, .slice H.Mem.Heap.Class.a H.Mem.Heap.Class.len H.Mem.Heap.Class.cap, .slice H.Mem.Lists.Global.a H.Mem.Lists.Global.len H.Mem.Lists.Global.cap, .slice H.Mem.Lists.Own.a H.Mem.Lists.Own.len H.Mem.Lists.Own.cap, .int .i64 x.Clock.Epoch, .slice H.Clock.Pins.a H.Clock.Pins.len H.Clock.Pins.cap, .slice H.Limbo.a H.Limbo.len H.Limbo.cap, .slice H.Haz.a H.Haz.len H.Haz.cap] 37
      exact hbx
    have hB : Below w.heap.size w (w.alloc (.cells #[.slice H.Mem.Heap.Bytes.a H.Mem.Heap.Bytes.len H.Mem.Heap.Bytes.cap, .slice H.Mem.Heap.Class.a H.Mem.Heap.Class.len H.Mem.Heap.Class.cap, .slice H.Mem.Lists.Global.a H.Mem.Lists.Global.len H.Mem.Lists.Global.cap, .slice H.Mem.Lists.Own.a H.Mem.Lists.Own.len H.Mem.Lists.Own.cap, .int .i64 x.Clock.Epoch, .slice H.Clock.Pins.a H.Clock.Pins.len H.Clock.Pins.cap, .slice H.Limbo.a H.Limbo.len H.Limbo.cap, .slice H.Haz.a H.Haz.len H.Haz.cap] 37)) := by repeat (first | exact Below.refl _ _ | refine Below.alloc ?_ (by simp <;> omega) _ | refine below_grow_of ?_ (by simp <;> omega) _ _ | refine Below.drew ?_ | refine below_drewN ?_ _)
    go_enter Tryz.func99, Tryz.ntmps99
    go_wp2_with fail
    generalize hW0 : (w.alloc (.cells #[.slice H.Mem.Heap.Bytes.a H.Mem.Heap.Bytes.len H.Mem.Heap.Bytes.cap, .slice H.Mem.Heap.Class.a H.Mem.Heap.Class.len H.Mem.Heap.Class.cap, .slice H.Mem.Lists.Global.a H.Mem.Lists.Global.len H.Mem.Lists.Global.cap, .slice H.Mem.Lists.Own.a H.Mem.Lists.Own.len H.Mem.Lists.Own.cap, .int .i64 x.Clock.Epoch, .slice H.Clock.Pins.a H.Clock.Pins.len H.Clock.Pins.cap, .slice H.Limbo.a H.Limbo.len H.Limbo.cap, .slice H.Haz.a H.Haz.len H.Haz.cap] 37)) = w0 at B_a hB ⊢
    clear hW0
    have zz_a := B_a.lt
    have q_a_0 := B_a.cell 0 _ rfl
    have q_a_1 := B_a.cell 1 _ rfl
    have q_a_2 := B_a.cell 2 _ rfl
    have q_a_3 := B_a.cell 3 _ rfl
    have q_a_4 := B_a.cell 4 _ rfl
    have q_a_5 := B_a.cell 5 _ rfl
    have q_a_6 := B_a.cell 6 _ rfl
    have q_a_7 := B_a.cell 7 _ rfl
    have fr_a := B_a.fro
    have z_a := B_a.lt
    refine (k0 _ hB).mono ?_
    rintro e w1 ⟨rfl, hb⟩
    replace B_a := B_a.below hb
    replace hB := hB.trans (hb.mono hB.size)
    have sz := hb.size
    clear hb
    replace q_a_0 := B_a.cell 0 _ rfl
    replace q_a_1 := B_a.cell 1 _ rfl
    replace q_a_2 := B_a.cell 2 _ rfl
    replace q_a_3 := B_a.cell 3 _ rfl
    replace q_a_4 := B_a.cell 4 _ rfl
    replace q_a_5 := B_a.cell 5 _ rfl
    replace q_a_6 := B_a.cell 6 _ rfl
    replace q_a_7 := B_a.cell 7 _ rfl
    replace fr_a := B_a.fro
    replace z_a := B_a.lt
    clear k0
    go_wp2_with fail
    refine (k1 _ hB).mono ?_
    rintro e w2 ⟨rfl, hb⟩
    replace B_a := B_a.below hb
    replace hB := hB.trans (hb.mono hB.size)
    have sz := hb.size
    clear hb
    replace q_a_0 := B_a.cell 0 _ rfl
    replace q_a_1 := B_a.cell 1 _ rfl
    replace q_a_2 := B_a.cell 2 _ rfl
    replace q_a_3 := B_a.cell 3 _ rfl
    replace q_a_4 := B_a.cell 4 _ rfl
    replace q_a_5 := B_a.cell 5 _ rfl
    replace q_a_6 := B_a.cell 6 _ rfl
    replace q_a_7 := B_a.cell 7 _ rfl
    replace fr_a := B_a.fro
    replace z_a := B_a.lt
    clear k1
    go_wp2_with fail
    go_ret
    exact ⟨ret_i64 HV.out.symm, by first | exact hB | exact hB.drew⟩

set_option maxRecDepth 100000 in
set_option maxHeartbeats 2000000 in
theorem Where_impl (w : World) (H : HBase) (x : Base) (s : Int) (h : RdBase w w.heap.size H x) (hs : szLL x.Limbo ≤ 536870912) :
    Calls Tryz.prog 32 #[.agg #[.slice H.Mem.Heap.Bytes.a H.Mem.Heap.Bytes.len H.Mem.Heap.Bytes.cap, .slice H.Mem.Heap.Class.a H.Mem.Heap.Class.len H.Mem.Heap.Class.cap, .slice H.Mem.Lists.Global.a H.Mem.Lists.Global.len H.Mem.Lists.Global.cap, .slice H.Mem.Lists.Own.a H.Mem.Lists.Own.len H.Mem.Lists.Own.cap, .int .i64 x.Clock.Epoch, .slice H.Clock.Pins.a H.Clock.Pins.len H.Clock.Pins.cap, .slice H.Limbo.a H.Limbo.len H.Limbo.cap, .slice H.Haz.a H.Haz.len H.Haz.cap], .int .i64 s] w fun e w' => e = .returned (.int .i64 (whereP x s)) ∧ Below w.heap.size w w' := by
  have k0 := fun (W : World) (hW : Below w.heap.size w W) => BaseOk_impl W H x (rdBase_up h hW) hs
  have k1 := fun (W : World) (hW : Below w.heap.size w W) (hsh : shapeB x.Mem.Heap = true) => where_impl W H x s (rdBase_up h hW) hsh hs
  have HV : Hid (whereP x s = if baseOkB x = true then whereB x s else 0) := Hid.mk_ rfl
  have HSH := Hid.mk_ (fun hm : baseOkB x = true => base_shape hm)
  generalize baseOkB x = c0 at k0 HV HSH
  generalize whereB x s = ws at k1 HV
  cases c0 with
  | false =>
    replace HV : Hid (whereP x s = 0) := Hid.mk_ HV.out
    have B_a : Box (w.alloc (.cells #[.slice H.Mem.Heap.Bytes.a H.Mem.Heap.Bytes.len H.Mem.Heap.Bytes.cap, .slice H.Mem.Heap.Class.a H.Mem.Heap.Class.len H.Mem.Heap.Class.cap, .slice H.Mem.Lists.Global.a H.Mem.Lists.Global.len H.Mem.Lists.Global.cap, .slice H.Mem.Lists.Own.a H.Mem.Lists.Own.len H.Mem.Lists.Own.cap, .int .i64 x.Clock.Epoch, .slice H.Clock.Pins.a H.Clock.Pins.len H.Clock.Pins.cap, .slice H.Limbo.a H.Limbo.len H.Limbo.cap, .slice H.Haz.a H.Haz.len H.Haz.cap] 37)) (w.heap.size) [.slice H.Mem.Heap.Bytes.a H.Mem.Heap.Bytes.len H.Mem.Heap.Bytes.cap, .slice H.Mem.Heap.Class.a H.Mem.Heap.Class.len H.Mem.Heap.Class.cap, .slice H.Mem.Lists.Global.a H.Mem.Lists.Global.len H.Mem.Lists.Global.cap, .slice H.Mem.Lists.Own.a H.Mem.Lists.Own.len H.Mem.Lists.Own.cap, .int .i64 x.Clock.Epoch, .slice H.Clock.Pins.a H.Clock.Pins.len H.Clock.Pins.cap, .slice H.Limbo.a H.Limbo.len H.Limbo.cap, .slice H.Haz.a H.Haz.len H.Haz.cap] := by
      have hbx := Box.new w #[.slice H.Mem.Heap.Bytes.a H.Mem.Heap.Bytes.len H.Mem.Heap.Bytes.cap, .slice H.Mem.Heap.Class.a H.Mem.Heap.Class.len H.Mem.Heap.Class.cap, .slice H.Mem.Lists.Global.a H.Mem.Lists.Global.len H.Mem.Lists.Global.cap, .slice H.Mem.Lists.Own.a H.Mem.Lists.Own.len H.Mem.Lists.Own.cap, .int .i64 x.Clock.Epoch, .slice H.Clock.Pins.a H.Clock.Pins.len H.Clock.Pins.cap, .slice H.Limbo.a H.Limbo.len H.Limbo.cap, .slice H.Haz.a H.Haz.len H.Haz.cap] 37
      exact hbx
    have hB : Below w.heap.size w (w.alloc (.cells #[.slice H.Mem.Heap.Bytes.a H.Mem.Heap.Bytes.len H.Mem.Heap.Bytes.cap, .slice H.Mem.Heap.Class.a H.Mem.Heap.Class.len H.Mem.Heap.Class.cap, .slice H.Mem.Lists.Global.a H.Mem.Lists.Global.len H.Mem.Lists.Global.cap, .slice H.Mem.Lists.Own.a H.Mem.Lists.Own.len H.Mem.Lists.Own.cap, .int .i64 x.Clock.Epoch, .slice H.Clock.Pins.a H.Clock.Pins.len H.Clock.Pins.cap, .slice H.Limbo.a H.Limbo.len H.Limbo.cap, .slice H.Haz.a H.Haz.len H.Haz.cap] 37)) := by repeat (first | exact Below.refl _ _ | refine Below.alloc ?_ (by simp <;> omega) _ | refine below_grow_of ?_ (by simp <;> omega) _ _ | refine Below.drew ?_ | refine below_drewN ?_ _)
    go_enter Tryz.func32, Tryz.ntmps32
    go_wp2_with fail
    generalize hW0 : (w.alloc (.cells #[.slice H.Mem.Heap.Bytes.a H.Mem.Heap.Bytes.len H.Mem.Heap.Bytes.cap, .slice H.Mem.Heap.Class.a H.Mem.Heap.Class.len H.Mem.Heap.Class.cap, .slice H.Mem.Lists.Global.a H.Mem.Lists.Global.len H.Mem.Lists.Global.cap, .slice H.Mem.Lists.Own.a H.Mem.Lists.Own.len H.Mem.Lists.Own.cap, .int .i64 x.Clock.Epoch, .slice H.Clock.Pins.a H.Clock.Pins.len H.Clock.Pins.cap, .slice H.Limbo.a H.Limbo.len H.Limbo.cap, .slice H.Haz.a H.Haz.len H.Haz.cap] 37)) = w0 at B_a hB ⊢
    clear hW0
    have zz_a := B_a.lt
    have q_a_0 := B_a.cell 0 _ rfl
    have q_a_1 := B_a.cell 1 _ rfl
    have q_a_2 := B_a.cell 2 _ rfl
    have q_a_3 := B_a.cell 3 _ rfl
    have q_a_4 := B_a.cell 4 _ rfl
    have q_a_5 := B_a.cell 5 _ rfl
    have q_a_6 := B_a.cell 6 _ rfl
    have q_a_7 := B_a.cell 7 _ rfl
    have fr_a := B_a.fro
    have z_a := B_a.lt
    refine (k0 _ hB).mono ?_
    rintro e w1 ⟨rfl, hb⟩
    replace B_a := B_a.below hb
    replace hB := hB.trans (hb.mono hB.size)
    have sz := hb.size
    clear hb
    replace q_a_0 := B_a.cell 0 _ rfl
    replace q_a_1 := B_a.cell 1 _ rfl
    replace q_a_2 := B_a.cell 2 _ rfl
    replace q_a_3 := B_a.cell 3 _ rfl
    replace q_a_4 := B_a.cell 4 _ rfl
    replace q_a_5 := B_a.cell 5 _ rfl
    replace q_a_6 := B_a.cell 6 _ rfl
    replace q_a_7 := B_a.cell 7 _ rfl
    replace fr_a := B_a.fro
    replace z_a := B_a.lt
    clear k0
    go_wp2_with fail
    go_ret
    exact ⟨ret_i64 HV.out.symm, hB⟩
  | true =>
    have hsh := HSH.out rfl
    replace HV : Hid (whereP x s = ws) := Hid.mk_ HV.out
    have B_a : Box (w.alloc (.cells #[.slice H.Mem.Heap.Bytes.a H.Mem.Heap.Bytes.len H.Mem.Heap.Bytes.cap, .slice H.Mem.Heap.Class.a H.Mem.Heap.Class.len H.Mem.Heap.Class.cap, .slice H.Mem.Lists.Global.a H.Mem.Lists.Global.len H.Mem.Lists.Global.cap, .slice H.Mem.Lists.Own.a H.Mem.Lists.Own.len H.Mem.Lists.Own.cap, .int .i64 x.Clock.Epoch, .slice H.Clock.Pins.a H.Clock.Pins.len H.Clock.Pins.cap, .slice H.Limbo.a H.Limbo.len H.Limbo.cap, .slice H.Haz.a H.Haz.len H.Haz.cap] 37)) (w.heap.size) [.slice H.Mem.Heap.Bytes.a H.Mem.Heap.Bytes.len H.Mem.Heap.Bytes.cap, .slice H.Mem.Heap.Class.a H.Mem.Heap.Class.len H.Mem.Heap.Class.cap, .slice H.Mem.Lists.Global.a H.Mem.Lists.Global.len H.Mem.Lists.Global.cap, .slice H.Mem.Lists.Own.a H.Mem.Lists.Own.len H.Mem.Lists.Own.cap, .int .i64 x.Clock.Epoch, .slice H.Clock.Pins.a H.Clock.Pins.len H.Clock.Pins.cap, .slice H.Limbo.a H.Limbo.len H.Limbo.cap, .slice H.Haz.a H.Haz.len H.Haz.cap] := by
      have hbx := Box.new w #[.slice H.Mem.Heap.Bytes.a H.Mem.Heap.Bytes.len H.Mem.Heap.Bytes.cap, .slice H.Mem.Heap.Class.a H.Mem.Heap.Class.len H.Mem.Heap.Class.cap, .slice H.Mem.Lists.Global.a H.Mem.Lists.Global.len H.Mem.Lists.Global.cap, .slice H.Mem.Lists.Own.a H.Mem.Lists.Own.len H.Mem.Lists.Own.cap, .int .i64 x.Clock.Epoch, .slice H.Clock.Pins.a H.Clock.Pins.len H.Clock.Pins.cap, .slice H.Limbo.a H.Limbo.len H.Limbo.cap, .slice H.Haz.a H.Haz.len H.Haz.cap] 37
      exact hbx
    have hB : Below w.heap.size w (w.alloc (.cells #[.slice H.Mem.Heap.Bytes.a H.Mem.Heap.Bytes.len H.Mem.Heap.Bytes.cap, .slice H.Mem.Heap.Class.a H.Mem.Heap.Class.len H.Mem.Heap.Class.cap, .slice H.Mem.Lists.Global.a H.Mem.Lists.Global.len H.Mem.Lists.Global.cap, .slice H.Mem.Lists.Own.a H.Mem.Lists.Own.len H.Mem.Lists.Own.cap, .int .i64 x.Clock.Epoch, .slice H.Clock.Pins.a H.Clock.Pins.len H.Clock.Pins.cap, .slice H.Limbo.a H.Limbo.len H.Limbo.cap, .slice H.Haz.a H.Haz.len H.Haz.cap] 37)) := by repeat (first | exact Below.refl _ _ | refine Below.alloc ?_ (by simp <;> omega) _ | refine below_grow_of ?_ (by simp <;> omega) _ _ | refine Below.drew ?_ | refine below_drewN ?_ _)
    go_enter Tryz.func32, Tryz.ntmps32
    go_wp2_with fail
    generalize hW0 : (w.alloc (.cells #[.slice H.Mem.Heap.Bytes.a H.Mem.Heap.Bytes.len H.Mem.Heap.Bytes.cap, .slice H.Mem.Heap.Class.a H.Mem.Heap.Class.len H.Mem.Heap.Class.cap, .slice H.Mem.Lists.Global.a H.Mem.Lists.Global.len H.Mem.Lists.Global.cap, .slice H.Mem.Lists.Own.a H.Mem.Lists.Own.len H.Mem.Lists.Own.cap, .int .i64 x.Clock.Epoch, .slice H.Clock.Pins.a H.Clock.Pins.len H.Clock.Pins.cap, .slice H.Limbo.a H.Limbo.len H.Limbo.cap, .slice H.Haz.a H.Haz.len H.Haz.cap] 37)) = w0 at B_a hB ⊢
    clear hW0
    have zz_a := B_a.lt
    have q_a_0 := B_a.cell 0 _ rfl
    have q_a_1 := B_a.cell 1 _ rfl
    have q_a_2 := B_a.cell 2 _ rfl
    have q_a_3 := B_a.cell 3 _ rfl
    have q_a_4 := B_a.cell 4 _ rfl
    have q_a_5 := B_a.cell 5 _ rfl
    have q_a_6 := B_a.cell 6 _ rfl
    have q_a_7 := B_a.cell 7 _ rfl
    have fr_a := B_a.fro
    have z_a := B_a.lt
    refine (k0 _ hB).mono ?_
    rintro e w1 ⟨rfl, hb⟩
    replace B_a := B_a.below hb
    replace hB := hB.trans (hb.mono hB.size)
    have sz := hb.size
    clear hb
    replace q_a_0 := B_a.cell 0 _ rfl
    replace q_a_1 := B_a.cell 1 _ rfl
    replace q_a_2 := B_a.cell 2 _ rfl
    replace q_a_3 := B_a.cell 3 _ rfl
    replace q_a_4 := B_a.cell 4 _ rfl
    replace q_a_5 := B_a.cell 5 _ rfl
    replace q_a_6 := B_a.cell 6 _ rfl
    replace q_a_7 := B_a.cell 7 _ rfl
    replace fr_a := B_a.fro
    replace z_a := B_a.lt
    clear k0
    go_wp2_with fail
    refine (k1 _ hB hsh).mono ?_
    rintro e w2 ⟨rfl, hb⟩
    replace B_a := B_a.below hb
    replace hB := hB.trans (hb.mono hB.size)
    have sz := hb.size
    clear hb
    replace q_a_0 := B_a.cell 0 _ rfl
    replace q_a_1 := B_a.cell 1 _ rfl
    replace q_a_2 := B_a.cell 2 _ rfl
    replace q_a_3 := B_a.cell 3 _ rfl
    replace q_a_4 := B_a.cell 4 _ rfl
    replace q_a_5 := B_a.cell 5 _ rfl
    replace q_a_6 := B_a.cell 6 _ rfl
    replace q_a_7 := B_a.cell 7 _ rfl
    replace fr_a := B_a.fro
    replace z_a := B_a.lt
    clear k1
    go_wp2_with fail
    go_ret
    exact ⟨ret_i64 HV.out.symm, hB⟩

set_option maxRecDepth 100000 in
set_option maxHeartbeats 2000000 in
theorem Where_spec (w : World) (H : HBase) (x : Base) (s : Int) (h : RdBase w w.heap.size H x) (hs : szLL x.Limbo ≤ 536870912) (hs1 : szLL x.Mem.Lists.Global ≤ 536870912) (hs2 : szLL x.Mem.Lists.Own ≤ 536870912) :
    Calls Tryz.prog 31 #[.agg #[.slice H.Mem.Heap.Bytes.a H.Mem.Heap.Bytes.len H.Mem.Heap.Bytes.cap, .slice H.Mem.Heap.Class.a H.Mem.Heap.Class.len H.Mem.Heap.Class.cap, .slice H.Mem.Lists.Global.a H.Mem.Lists.Global.len H.Mem.Lists.Global.cap, .slice H.Mem.Lists.Own.a H.Mem.Lists.Own.len H.Mem.Lists.Own.cap, .int .i64 x.Clock.Epoch, .slice H.Clock.Pins.a H.Clock.Pins.len H.Clock.Pins.cap, .slice H.Limbo.a H.Limbo.len H.Limbo.cap, .slice H.Haz.a H.Haz.len H.Haz.cap], .int .i64 s] w fun e w' => e = .returned (.int .i64 (whereP x s)) ∧ Below w.heap.size w w' := by
  have k0 := fun (W : World) (hW : Below w.heap.size w W) => BaseOk_spec W H x (rdBase_up h hW) hs hs1 hs2
  have k1 := fun (W : World) (hW : Below w.heap.size w W) (hsh : shapeB x.Mem.Heap = true) => l13Where_spec W H x s (rdBase_up h hW) hsh hs hs1 hs2
  have HV : Hid (whereP x s = if baseOkB x = true then whereB x s else 0) := Hid.mk_ rfl
  have HSH := Hid.mk_ (fun hm : baseOkB x = true => base_shape hm)
  generalize baseOkB x = c0 at k0 HV HSH
  generalize whereB x s = ws at k1 HV
  cases c0 with
  | false =>
    replace HV : Hid (whereP x s = 0) := Hid.mk_ HV.out
    have B_a : Box (w.alloc (.cells #[.slice H.Mem.Heap.Bytes.a H.Mem.Heap.Bytes.len H.Mem.Heap.Bytes.cap, .slice H.Mem.Heap.Class.a H.Mem.Heap.Class.len H.Mem.Heap.Class.cap, .slice H.Mem.Lists.Global.a H.Mem.Lists.Global.len H.Mem.Lists.Global.cap, .slice H.Mem.Lists.Own.a H.Mem.Lists.Own.len H.Mem.Lists.Own.cap, .int .i64 x.Clock.Epoch, .slice H.Clock.Pins.a H.Clock.Pins.len H.Clock.Pins.cap, .slice H.Limbo.a H.Limbo.len H.Limbo.cap, .slice H.Haz.a H.Haz.len H.Haz.cap] 37)) (w.heap.size) [.slice H.Mem.Heap.Bytes.a H.Mem.Heap.Bytes.len H.Mem.Heap.Bytes.cap, .slice H.Mem.Heap.Class.a H.Mem.Heap.Class.len H.Mem.Heap.Class.cap, .slice H.Mem.Lists.Global.a H.Mem.Lists.Global.len H.Mem.Lists.Global.cap, .slice H.Mem.Lists.Own.a H.Mem.Lists.Own.len H.Mem.Lists.Own.cap, .int .i64 x.Clock.Epoch, .slice H.Clock.Pins.a H.Clock.Pins.len H.Clock.Pins.cap, .slice H.Limbo.a H.Limbo.len H.Limbo.cap, .slice H.Haz.a H.Haz.len H.Haz.cap] := by
      have hbx := Box.new w #[.slice H.Mem.Heap.Bytes.a H.Mem.Heap.Bytes.len H.Mem.Heap.Bytes.cap, .slice H.Mem.Heap.Class.a H.Mem.Heap.Class.len H.Mem.Heap.Class.cap, .slice H.Mem.Lists.Global.a H.Mem.Lists.Global.len H.Mem.Lists.Global.cap, .slice H.Mem.Lists.Own.a H.Mem.Lists.Own.len H.Mem.Lists.Own.cap, .int .i64 x.Clock.Epoch, .slice H.Clock.Pins.a H.Clock.Pins.len H.Clock.Pins.cap, .slice H.Limbo.a H.Limbo.len H.Limbo.cap, .slice H.Haz.a H.Haz.len H.Haz.cap] 37
      exact hbx
    have hB : Below w.heap.size w (w.alloc (.cells #[.slice H.Mem.Heap.Bytes.a H.Mem.Heap.Bytes.len H.Mem.Heap.Bytes.cap, .slice H.Mem.Heap.Class.a H.Mem.Heap.Class.len H.Mem.Heap.Class.cap, .slice H.Mem.Lists.Global.a H.Mem.Lists.Global.len H.Mem.Lists.Global.cap, .slice H.Mem.Lists.Own.a H.Mem.Lists.Own.len H.Mem.Lists.Own.cap, .int .i64 x.Clock.Epoch, .slice H.Clock.Pins.a H.Clock.Pins.len H.Clock.Pins.cap, .slice H.Limbo.a H.Limbo.len H.Limbo.cap, .slice H.Haz.a H.Haz.len H.Haz.cap] 37)) := by repeat (first | exact Below.refl _ _ | refine Below.alloc ?_ (by simp <;> omega) _ | refine below_grow_of ?_ (by simp <;> omega) _ _ | refine Below.drew ?_ | refine below_drewN ?_ _)
    go_enter Tryz.func31, Tryz.ntmps31
    go_wp2_with fail
    generalize hW0 : (w.alloc (.cells #[.slice H.Mem.Heap.Bytes.a H.Mem.Heap.Bytes.len H.Mem.Heap.Bytes.cap, .slice H.Mem.Heap.Class.a H.Mem.Heap.Class.len H.Mem.Heap.Class.cap, .slice H.Mem.Lists.Global.a H.Mem.Lists.Global.len H.Mem.Lists.Global.cap, .slice H.Mem.Lists.Own.a H.Mem.Lists.Own.len H.Mem.Lists.Own.cap, .int .i64 x.Clock.Epoch, .slice H.Clock.Pins.a H.Clock.Pins.len H.Clock.Pins.cap, .slice H.Limbo.a H.Limbo.len H.Limbo.cap, .slice H.Haz.a H.Haz.len H.Haz.cap] 37)) = w0 at B_a hB ⊢
    clear hW0
    have zz_a := B_a.lt
    have q_a_0 := B_a.cell 0 _ rfl
    have q_a_1 := B_a.cell 1 _ rfl
    have q_a_2 := B_a.cell 2 _ rfl
    have q_a_3 := B_a.cell 3 _ rfl
    have q_a_4 := B_a.cell 4 _ rfl
    have q_a_5 := B_a.cell 5 _ rfl
    have q_a_6 := B_a.cell 6 _ rfl
    have q_a_7 := B_a.cell 7 _ rfl
    have fr_a := B_a.fro
    have z_a := B_a.lt
    refine (k0 _ hB).mono ?_
    rintro e w1 ⟨rfl, hb⟩
    replace B_a := B_a.below hb
    replace hB := hB.trans (hb.mono hB.size)
    have sz := hb.size
    clear hb
    replace q_a_0 := B_a.cell 0 _ rfl
    replace q_a_1 := B_a.cell 1 _ rfl
    replace q_a_2 := B_a.cell 2 _ rfl
    replace q_a_3 := B_a.cell 3 _ rfl
    replace q_a_4 := B_a.cell 4 _ rfl
    replace q_a_5 := B_a.cell 5 _ rfl
    replace q_a_6 := B_a.cell 6 _ rfl
    replace q_a_7 := B_a.cell 7 _ rfl
    replace fr_a := B_a.fro
    replace z_a := B_a.lt
    clear k0
    go_wp2_with fail
    go_ret
    exact ⟨ret_i64 HV.out.symm, hB⟩
  | true =>
    have hsh := HSH.out rfl
    replace HV : Hid (whereP x s = ws) := Hid.mk_ HV.out
    have B_a : Box (w.alloc (.cells #[.slice H.Mem.Heap.Bytes.a H.Mem.Heap.Bytes.len H.Mem.Heap.Bytes.cap, .slice H.Mem.Heap.Class.a H.Mem.Heap.Class.len H.Mem.Heap.Class.cap, .slice H.Mem.Lists.Global.a H.Mem.Lists.Global.len H.Mem.Lists.Global.cap, .slice H.Mem.Lists.Own.a H.Mem.Lists.Own.len H.Mem.Lists.Own.cap, .int .i64 x.Clock.Epoch, .slice H.Clock.Pins.a H.Clock.Pins.len H.Clock.Pins.cap, .slice H.Limbo.a H.Limbo.len H.Limbo.cap, .slice H.Haz.a H.Haz.len H.Haz.cap] 37)) (w.heap.size) [.slice H.Mem.Heap.Bytes.a H.Mem.Heap.Bytes.len H.Mem.Heap.Bytes.cap, .slice H.Mem.Heap.Class.a H.Mem.Heap.Class.len H.Mem.Heap.Class.cap, .slice H.Mem.Lists.Global.a H.Mem.Lists.Global.len H.Mem.Lists.Global.cap, .slice H.Mem.Lists.Own.a H.Mem.Lists.Own.len H.Mem.Lists.Own.cap, .int .i64 x.Clock.Epoch, .slice H.Clock.Pins.a H.Clock.Pins.len H.Clock.Pins.cap, .slice H.Limbo.a H.Limbo.len H.Limbo.cap, .slice H.Haz.a H.Haz.len H.Haz.cap] := by
      have hbx := Box.new w #[.slice H.Mem.Heap.Bytes.a H.Mem.Heap.Bytes.len H.Mem.Heap.Bytes.cap, .slice H.Mem.Heap.Class.a H.Mem.Heap.Class.len H.Mem.Heap.Class.cap, .slice H.Mem.Lists.Global.a H.Mem.Lists.Global.len H.Mem.Lists.Global.cap, .slice H.Mem.Lists.Own.a H.Mem.Lists.Own.len H.Mem.Lists.Own.cap, .int .i64 x.Clock.Epoch, .slice H.Clock.Pins.a H.Clock.Pins.len H.Clock.Pins.cap, .slice H.Limbo.a H.Limbo.len H.Limbo.cap, .slice H.Haz.a H.Haz.len H.Haz.cap] 37
      exact hbx
    have hB : Below w.heap.size w (w.alloc (.cells #[.slice H.Mem.Heap.Bytes.a H.Mem.Heap.Bytes.len H.Mem.Heap.Bytes.cap, .slice H.Mem.Heap.Class.a H.Mem.Heap.Class.len H.Mem.Heap.Class.cap, .slice H.Mem.Lists.Global.a H.Mem.Lists.Global.len H.Mem.Lists.Global.cap, .slice H.Mem.Lists.Own.a H.Mem.Lists.Own.len H.Mem.Lists.Own.cap, .int .i64 x.Clock.Epoch, .slice H.Clock.Pins.a H.Clock.Pins.len H.Clock.Pins.cap, .slice H.Limbo.a H.Limbo.len H.Limbo.cap, .slice H.Haz.a H.Haz.len H.Haz.cap] 37)) := by repeat (first | exact Below.refl _ _ | refine Below.alloc ?_ (by simp <;> omega) _ | refine below_grow_of ?_ (by simp <;> omega) _ _ | refine Below.drew ?_ | refine below_drewN ?_ _)
    go_enter Tryz.func31, Tryz.ntmps31
    go_wp2_with fail
    generalize hW0 : (w.alloc (.cells #[.slice H.Mem.Heap.Bytes.a H.Mem.Heap.Bytes.len H.Mem.Heap.Bytes.cap, .slice H.Mem.Heap.Class.a H.Mem.Heap.Class.len H.Mem.Heap.Class.cap, .slice H.Mem.Lists.Global.a H.Mem.Lists.Global.len H.Mem.Lists.Global.cap, .slice H.Mem.Lists.Own.a H.Mem.Lists.Own.len H.Mem.Lists.Own.cap, .int .i64 x.Clock.Epoch, .slice H.Clock.Pins.a H.Clock.Pins.len H.Clock.Pins.cap, .slice H.Limbo.a H.Limbo.len H.Limbo.cap, .slice H.Haz.a H.Haz.len H.Haz.cap] 37)) = w0 at B_a hB ⊢
    clear hW0
    have zz_a := B_a.lt
    have q_a_0 := B_a.cell 0 _ rfl
    have q_a_1 := B_a.cell 1 _ rfl
    have q_a_2 := B_a.cell 2 _ rfl
    have q_a_3 := B_a.cell 3 _ rfl
    have q_a_4 := B_a.cell 4 _ rfl
    have q_a_5 := B_a.cell 5 _ rfl
    have q_a_6 := B_a.cell 6 _ rfl
    have q_a_7 := B_a.cell 7 _ rfl
    have fr_a := B_a.fro
    have z_a := B_a.lt
    refine (k0 _ hB).mono ?_
    rintro e w1 ⟨rfl, hb⟩
    replace B_a := B_a.below hb
    replace hB := hB.trans (hb.mono hB.size)
    have sz := hb.size
    clear hb
    replace q_a_0 := B_a.cell 0 _ rfl
    replace q_a_1 := B_a.cell 1 _ rfl
    replace q_a_2 := B_a.cell 2 _ rfl
    replace q_a_3 := B_a.cell 3 _ rfl
    replace q_a_4 := B_a.cell 4 _ rfl
    replace q_a_5 := B_a.cell 5 _ rfl
    replace q_a_6 := B_a.cell 6 _ rfl
    replace q_a_7 := B_a.cell 7 _ rfl
    replace fr_a := B_a.fro
    replace z_a := B_a.lt
    clear k0
    go_wp2_with fail
    refine (k1 _ hB hsh).mono ?_
    rintro e w2 ⟨rfl, hb⟩
    replace B_a := B_a.below hb
    replace hB := hB.trans (hb.mono hB.size)
    have sz := hb.size
    clear hb
    replace q_a_0 := B_a.cell 0 _ rfl
    replace q_a_1 := B_a.cell 1 _ rfl
    replace q_a_2 := B_a.cell 2 _ rfl
    replace q_a_3 := B_a.cell 3 _ rfl
    replace q_a_4 := B_a.cell 4 _ rfl
    replace q_a_5 := B_a.cell 5 _ rfl
    replace q_a_6 := B_a.cell 6 _ rfl
    replace q_a_7 := B_a.cell 7 _ rfl
    replace fr_a := B_a.fro
    replace z_a := B_a.lt
    clear k1
    go_wp2_with fail
    go_ret
    exact ⟨ret_i64 HV.out.symm, hB⟩
end Go.Proofs.YtkldapdpaldbgaaGreat
namespace Go.Proofs.YtkldapdpaldbgaaGreat
open Go.RowKit

def cntB (x : Base) : Nat → List Int
  | 0 => [0, 0, 0, 0, 0]
  | k + 1 => (cntB x k).set (whereB x (k : Int)).toNat ((cntB x k).getD (whereB x (k : Int)).toNat 0 + 1)
def tallyP (x : Base) : List Int := if baseOkB x = true then cntB x 24 else [0, 0, 0, 0, 0]
theorem cntB_len (x : Base) : ∀ k, (cntB x k).length = 5
  | 0 => rfl
  | k + 1 => by simp [cntB, cntB_len x k]
theorem cntB_bd (x : Base) : ∀ (k j : Nat), 0 ≤ (cntB x k).getD j 0 ∧ (cntB x k).getD j 0 ≤ k
  | 0, j => by
    rcases j with _ | _ | _ | _ | _ | j <;> simp [cntB]
  | k + 1, j => by
    have h := cntB_bd x k j
    unfold cntB
    by_cases e : (whereB x (k : Int)).toNat = j
    · rw [e]
      by_cases hj : j < (cntB x k).length
      · have e2 : ((cntB x k).set j ((cntB x k).getD j 0 + 1)).getD j 0 = (cntB x k).getD j 0 + 1 := by
          rw [List.getD, List.getElem?_set_self hj]
          rfl
        rw [e2]
        omega
      · rw [List.set_eq_of_length_le (by omega)]
        omega
    · simp [List.getD, List.getElem?_set_ne e] at h ⊢
      omega
theorem where_bd (x : Base) (s : Int) : 0 ≤ whereB x s ∧ whereB x s ≤ 4 := by
  unfold whereB
  have := state_bd x.Mem s
  repeat' split
  all_goals omega
theorem where_nat (x : Base) (s : Int) : ∃ j : Nat, j < 5 ∧ whereB x s = (j : Int) := ⟨(whereB x s).toNat, by have := where_bd x s; omega, by have := where_bd x s; omega⟩
theorem cntB_step {x : Base} {k j : Nat} (h : whereB x (k : Int) = (j : Int)) : cntB x (k + 1) = (cntB x k).set j ((cntB x k).getD j 0 + 1) := by
  rw [cntB, h, Int.toNat_natCast]
theorem cntB_get (x : Base) (k : Nat) {j : Nat} (hj : j < 5) : (cntB x k)[j]? = some ((cntB x k).getD j 0) := by
  have := cntB_len x k
  simp [List.getD, this, hj]
theorem tally_len (x : Base) : (tallyP x).length = 5 := by
  unfold tallyP
  split
  · exact cntB_len x 24
  · rfl

set_option maxRecDepth 100000 in
set_option maxHeartbeats 2000000 in
theorem Tally_impl (w : World) (H : HBase) (x : Base) (h : RdBase w w.heap.size H x) (hs : szLL x.Limbo ≤ 536870912) :
    Calls Tryz.prog 16 #[.agg #[.slice H.Mem.Heap.Bytes.a H.Mem.Heap.Bytes.len H.Mem.Heap.Bytes.cap, .slice H.Mem.Heap.Class.a H.Mem.Heap.Class.len H.Mem.Heap.Class.cap, .slice H.Mem.Lists.Global.a H.Mem.Lists.Global.len H.Mem.Lists.Global.cap, .slice H.Mem.Lists.Own.a H.Mem.Lists.Own.len H.Mem.Lists.Own.cap, .int .i64 x.Clock.Epoch, .slice H.Clock.Pins.a H.Clock.Pins.len H.Clock.Pins.cap, .slice H.Limbo.a H.Limbo.len H.Limbo.cap, .slice H.Haz.a H.Haz.len H.Haz.cap]] w fun e w' => ∃ v', e = .returned v' ∧ OwL FI 3 w' v' (tallyP x) ∧ (∀ g ∈ foot1 v', w.heap.size ≤ g) ∧ Below w.heap.size w w' := by
  have hmk : ∀ w, (Instr.makeSlice 24 (.int .i64 5) (.int .i64 5)).run Tryz.prog w = .ok (.slice (some ⟨w.heap.size, 0, none⟩) 5 5) (w.alloc (.cells (madeCells #[.int .i64 0] (5 * FI.n)) 3)) := run_make_flat (P := Tryz.prog) FI 24 3 (.int .i64 0) 8 Tryz.underlying24 Tryz.infoInt 5 (by omega) (by omega)
  have ba0 : Box (w.alloc (.cells #[.slice H.Mem.Heap.Bytes.a H.Mem.Heap.Bytes.len H.Mem.Heap.Bytes.cap, .slice H.Mem.Heap.Class.a H.Mem.Heap.Class.len H.Mem.Heap.Class.cap, .slice H.Mem.Lists.Global.a H.Mem.Lists.Global.len H.Mem.Lists.Global.cap, .slice H.Mem.Lists.Own.a H.Mem.Lists.Own.len H.Mem.Lists.Own.cap, .int .i64 x.Clock.Epoch, .slice H.Clock.Pins.a H.Clock.Pins.len H.Clock.Pins.cap, .slice H.Limbo.a H.Limbo.len H.Limbo.cap, .slice H.Haz.a H.Haz.len H.Haz.cap] 37)) w.heap.size [.slice H.Mem.Heap.Bytes.a H.Mem.Heap.Bytes.len H.Mem.Heap.Bytes.cap, .slice H.Mem.Heap.Class.a H.Mem.Heap.Class.len H.Mem.Heap.Class.cap, .slice H.Mem.Lists.Global.a H.Mem.Lists.Global.len H.Mem.Lists.Global.cap, .slice H.Mem.Lists.Own.a H.Mem.Lists.Own.len H.Mem.Lists.Own.cap, .int .i64 x.Clock.Epoch, .slice H.Clock.Pins.a H.Clock.Pins.len H.Clock.Pins.cap, .slice H.Limbo.a H.Limbo.len H.Limbo.cap, .slice H.Haz.a H.Haz.len H.Haz.cap] := Box.new w #[.slice H.Mem.Heap.Bytes.a H.Mem.Heap.Bytes.len H.Mem.Heap.Bytes.cap, .slice H.Mem.Heap.Class.a H.Mem.Heap.Class.len H.Mem.Heap.Class.cap, .slice H.Mem.Lists.Global.a H.Mem.Lists.Global.len H.Mem.Lists.Global.cap, .slice H.Mem.Lists.Own.a H.Mem.Lists.Own.len H.Mem.Lists.Own.cap, .int .i64 x.Clock.Epoch, .slice H.Clock.Pins.a H.Clock.Pins.len H.Clock.Pins.cap, .slice H.Limbo.a H.Limbo.len H.Limbo.cap, .slice H.Haz.a H.Haz.len H.Haz.cap] _
  have hB0 : Below w.heap.size w (w.alloc (.cells #[.slice H.Mem.Heap.Bytes.a H.Mem.Heap.Bytes.len H.Mem.Heap.Bytes.cap, .slice H.Mem.Heap.Class.a H.Mem.Heap.Class.len H.Mem.Heap.Class.cap, .slice H.Mem.Lists.Global.a H.Mem.Lists.Global.len H.Mem.Lists.Global.cap, .slice H.Mem.Lists.Own.a H.Mem.Lists.Own.len H.Mem.Lists.Own.cap, .int .i64 x.Clock.Epoch, .slice H.Clock.Pins.a H.Clock.Pins.len H.Clock.Pins.cap, .slice H.Limbo.a H.Limbo.len H.Limbo.cap, .slice H.Haz.a H.Haz.len H.Haz.cap] 37)) := by repeat (first | exact Below.refl _ _ | refine Below.alloc ?_ (by simp <;> omega) _ | refine below_grow_of ?_ (by simp <;> omega) _ _ | refine Below.drew ?_ | refine below_drewN ?_ _)
  have hO0 : OwL FI 3 ((w.alloc (.cells #[.slice H.Mem.Heap.Bytes.a H.Mem.Heap.Bytes.len H.Mem.Heap.Bytes.cap, .slice H.Mem.Heap.Class.a H.Mem.Heap.Class.len H.Mem.Heap.Class.cap, .slice H.Mem.Lists.Global.a H.Mem.Lists.Global.len H.Mem.Lists.Global.cap, .slice H.Mem.Lists.Own.a H.Mem.Lists.Own.len H.Mem.Lists.Own.cap, .int .i64 x.Clock.Epoch, .slice H.Clock.Pins.a H.Clock.Pins.len H.Clock.Pins.cap, .slice H.Limbo.a H.Limbo.len H.Limbo.cap, .slice H.Haz.a H.Haz.len H.Haz.cap] 37)).alloc (.cells (madeCells #[.int .i64 0] (5 * FI.n)) 3)) (.slice (some ⟨w.heap.size + 1, 0, none⟩) 5 5) [0, 0, 0, 0, 0] := by
    have ho := OwL.made FI #[.int .i64 0] rfl 5 (by simp [maxLen]) (w.alloc (.cells #[.slice H.Mem.Heap.Bytes.a H.Mem.Heap.Bytes.len H.Mem.Heap.Bytes.cap, .slice H.Mem.Heap.Class.a H.Mem.Heap.Class.len H.Mem.Heap.Class.cap, .slice H.Mem.Lists.Global.a H.Mem.Lists.Global.len H.Mem.Lists.Global.cap, .slice H.Mem.Lists.Own.a H.Mem.Lists.Own.len H.Mem.Lists.Own.cap, .int .i64 x.Clock.Epoch, .slice H.Clock.Pins.a H.Clock.Pins.len H.Clock.Pins.cap, .slice H.Limbo.a H.Limbo.len H.Limbo.cap, .slice H.Haz.a H.Haz.len H.Haz.cap] 37)) 3
    rw [World.size_alloc] at ho
    exact ho
  have ba00 := ba0.alloc (.cells (madeCells #[.int .i64 0] (5 * FI.n)) 3)
  have hB00 := hB0.alloc hB0.size (.cells (madeCells #[.int .i64 0] (5 * FI.n)) 3)
  have kB := fun (W : World) (hW : Below w.heap.size w W) => BaseOk_impl W H x (rdBase_up h hW) hs
  have kW := fun (hsh : shapeB x.Mem.Heap = true) (s : Int) (W : World) (hW : Below w.heap.size w W) => where_impl W H x s (rdBase_up h hW) hsh hs
  clear h
  clear hB0 ba0
  by_cases k1 : baseOkB x = true
  case neg =>
    have k1' : baseOkB x = false := (Bool.not_eq_true _).mp k1
    have HN := Hid.mk_ (show tallyP x = [0, 0, 0, 0, 0] from if_neg k1)
    clear k1
    go_enter Tryz.func16, Tryz.ntmps16
    go_wp2_with fail
    clear hmk
    generalize hW0 : ((w.alloc (.cells #[.slice H.Mem.Heap.Bytes.a H.Mem.Heap.Bytes.len H.Mem.Heap.Bytes.cap, .slice H.Mem.Heap.Class.a H.Mem.Heap.Class.len H.Mem.Heap.Class.cap, .slice H.Mem.Lists.Global.a H.Mem.Lists.Global.len H.Mem.Lists.Global.cap, .slice H.Mem.Lists.Own.a H.Mem.Lists.Own.len H.Mem.Lists.Own.cap, .int .i64 x.Clock.Epoch, .slice H.Clock.Pins.a H.Clock.Pins.len H.Clock.Pins.cap, .slice H.Limbo.a H.Limbo.len H.Limbo.cap, .slice H.Haz.a H.Haz.len H.Haz.cap] 37)).alloc (.cells (madeCells #[.int .i64 0] (5 * FI.n)) 3)) = w0 at hO0 ba00 hB00 ⊢
    clear hW0
    refine (kB _ hB00).mono ?_
    rw [k1']
    rintro e w1 ⟨rfl, hb⟩
    have hO1 := hO0.keep (fun g hg => hb.block g (foot_lt hO0 g (mem_foot1.2 hg)))
    have ba1 := ba00.below hb
    have hB1 := hB00.trans (hb.mono hB00.size)
    clear hb hO0 ba00 hB00 kB k1'
    go_wp2_with fail
    go_ret
    exact ⟨_, rfl, by rw [HN.out]; exact hO1, by simp [foot1, Value.ownBlock], hB1⟩
  have HN := Hid.mk_ (show tallyP x = cntB x 24 from if_pos k1)
  have HS := Hid.mk_ (base_shape k1)
  have k1' := k1
  clear k1
  go_enter Tryz.func16, Tryz.ntmps16
  go_wp2_with fail
  clear hmk
  generalize hW0 : ((w.alloc (.cells #[.slice H.Mem.Heap.Bytes.a H.Mem.Heap.Bytes.len H.Mem.Heap.Bytes.cap, .slice H.Mem.Heap.Class.a H.Mem.Heap.Class.len H.Mem.Heap.Class.cap, .slice H.Mem.Lists.Global.a H.Mem.Lists.Global.len H.Mem.Lists.Global.cap, .slice H.Mem.Lists.Own.a H.Mem.Lists.Own.len H.Mem.Lists.Own.cap, .int .i64 x.Clock.Epoch, .slice H.Clock.Pins.a H.Clock.Pins.len H.Clock.Pins.cap, .slice H.Limbo.a H.Limbo.len H.Limbo.cap, .slice H.Haz.a H.Haz.len H.Haz.cap] 37)).alloc (.cells (madeCells #[.int .i64 0] (5 * FI.n)) 3)) = w0 at hO0 ba00 hB00 ⊢
  clear hW0
  refine (kB _ hB00).mono ?_
  rw [k1']
  rintro e w1 ⟨rfl, hb⟩
  have hO1 := hO0.keep (fun g hg => hb.block g (foot_lt hO0 g (mem_foot1.2 hg)))
  have ba1 := ba00.below hb
  have hB1 := hB00.trans (hb.mono hB00.size)
  clear hb hO0 ba00 hB00 kB k1'
  go_wp2_with fail
  go_loopw [10] (fun i wr => ∃ k : Nat, k ≤ 24 ∧ i = .int .i64 k ∧ OwL FI 3 wr (.slice (some ⟨w.heap.size + 1, 0, none⟩) 5 5) (cntB x k) ∧ Box wr w.heap.size [.slice H.Mem.Heap.Bytes.a H.Mem.Heap.Bytes.len H.Mem.Heap.Bytes.cap, .slice H.Mem.Heap.Class.a H.Mem.Heap.Class.len H.Mem.Heap.Class.cap, .slice H.Mem.Lists.Global.a H.Mem.Lists.Global.len H.Mem.Lists.Global.cap, .slice H.Mem.Lists.Own.a H.Mem.Lists.Own.len H.Mem.Lists.Own.cap, .int .i64 x.Clock.Epoch, .slice H.Clock.Pins.a H.Clock.Pins.len H.Clock.Pins.cap, .slice H.Limbo.a H.Limbo.len H.Limbo.cap, .slice H.Haz.a H.Haz.len H.Haz.cap] ∧ Below w.heap.size w wr) (fun i _ => 24 - (intOf i).toNat)
  case atStart => exact ⟨0, Nat.zero_le _, rfl, hO1, ba1, hB1⟩
  case round =>
    obtain ⟨k, hk, rfl, ho, ba, hb⟩ := hrel
    clear hO1 ba1 hB1
    by_cases hlt : k < 24
    · obtain ⟨j, hj, hst⟩ := where_nat x (k : Int)
      have HC := Hid.mk_ (cntB_step hst)
      have hcg := cntB_get x k hj
      have hbd := cntB_bd x k j
      have hq := kW HS.out (k : Int)
      rw [hst] at hq
      clear hst kW
      have qa0 := ba.cell 0 _ rfl; have qa1 := ba.cell 1 _ rfl; have qa2 := ba.cell 2 _ rfl; have qa3 := ba.cell 3 _ rfl; have qa4 := ba.cell 4 _ rfl; have qa5 := ba.cell 5 _ rfl; have qa6 := ba.cell 6 _ rfl; have qa7 := ba.cell 7 _ rfl; have hlb := ba.lt
      generalize (cntB x k).getD j 0 = v at *
      go_wp2_with fail
      refine (hq _ hb).mono ?_
      rintro e w2 ⟨rfl, hb2⟩
      have hoN := ho.keep (fun g hg => hb2.block g (foot_lt ho g (mem_foot1.2 hg)))
      have baN := ba.below hb2
      have hBN := hb.trans (hb2.mono hb.size)
      clear hb2 hq ho ba hb
      have hf := hoN.frozen_ j
      have hx := hoN.cell_ hcg FI.pos
      have hset := hoN.set_ (y := v + 1) (u := .int .i64 (v + 1)) hcg FI.pos rfl
      simp only [FI, Nat.mul_one, Nat.add_zero] at hx
      have h1 : OwL FI 3 (w2.setCell ⟨w.heap.size + 1, j, none⟩ (.int .i64 (v + 1))) (.slice (some ⟨w.heap.size + 1, 0, none⟩) 5 5) ((cntB x k).set j (v + 1)) := by
        have h1 := hset
        rw [show j * FI.n + 0 = j by simp [FI]] at h1
        exact h1
      have hj' : (j : Int) < 5 := by omega
      clear hset
      clear qa0 qa1 qa2 qa3 qa4 qa5 qa6 qa7 hcg
      go_wp2
      go_roundw
      case rel => exact ⟨k + 1, by omega, by go_num, by rw [HC.out]; exact h1, baN.other (by omega) _, hBN.setCell (by simp) _⟩
      case measure => simp [intOf]; omega
    · go_wp2
      go_ret
      obtain rfl : k = 24 := by omega
      exact ⟨_, rfl, by rw [HN.out]; exact ho, by simp [foot1, Value.ownBlock], hb⟩

set_option maxRecDepth 100000 in
set_option maxHeartbeats 2000000 in
theorem Tally_spec (w : World) (H : HBase) (x : Base) (h : RdBase w w.heap.size H x) (hs : szLL x.Limbo ≤ 536870912) (hs1 : szLL x.Mem.Lists.Global ≤ 536870912) (hs2 : szLL x.Mem.Lists.Own ≤ 536870912) :
    Calls Tryz.prog 33 #[.agg #[.slice H.Mem.Heap.Bytes.a H.Mem.Heap.Bytes.len H.Mem.Heap.Bytes.cap, .slice H.Mem.Heap.Class.a H.Mem.Heap.Class.len H.Mem.Heap.Class.cap, .slice H.Mem.Lists.Global.a H.Mem.Lists.Global.len H.Mem.Lists.Global.cap, .slice H.Mem.Lists.Own.a H.Mem.Lists.Own.len H.Mem.Lists.Own.cap, .int .i64 x.Clock.Epoch, .slice H.Clock.Pins.a H.Clock.Pins.len H.Clock.Pins.cap, .slice H.Limbo.a H.Limbo.len H.Limbo.cap, .slice H.Haz.a H.Haz.len H.Haz.cap]] w fun e w' => ∃ v', e = .returned v' ∧ OwL FI 3 w' v' (tallyP x) ∧ (∀ g ∈ foot1 v', w.heap.size ≤ g) ∧ Below w.heap.size w w' := by
  have hmk : ∀ w, (Instr.makeSlice 24 (.int .i64 5) (.int .i64 5)).run Tryz.prog w = .ok (.slice (some ⟨w.heap.size, 0, none⟩) 5 5) (w.alloc (.cells (madeCells #[.int .i64 0] (5 * FI.n)) 3)) := run_make_flat (P := Tryz.prog) FI 24 3 (.int .i64 0) 8 Tryz.underlying24 Tryz.infoInt 5 (by omega) (by omega)
  have ba0 : Box (w.alloc (.cells #[.slice H.Mem.Heap.Bytes.a H.Mem.Heap.Bytes.len H.Mem.Heap.Bytes.cap, .slice H.Mem.Heap.Class.a H.Mem.Heap.Class.len H.Mem.Heap.Class.cap, .slice H.Mem.Lists.Global.a H.Mem.Lists.Global.len H.Mem.Lists.Global.cap, .slice H.Mem.Lists.Own.a H.Mem.Lists.Own.len H.Mem.Lists.Own.cap, .int .i64 x.Clock.Epoch, .slice H.Clock.Pins.a H.Clock.Pins.len H.Clock.Pins.cap, .slice H.Limbo.a H.Limbo.len H.Limbo.cap, .slice H.Haz.a H.Haz.len H.Haz.cap] 37)) w.heap.size [.slice H.Mem.Heap.Bytes.a H.Mem.Heap.Bytes.len H.Mem.Heap.Bytes.cap, .slice H.Mem.Heap.Class.a H.Mem.Heap.Class.len H.Mem.Heap.Class.cap, .slice H.Mem.Lists.Global.a H.Mem.Lists.Global.len H.Mem.Lists.Global.cap, .slice H.Mem.Lists.Own.a H.Mem.Lists.Own.len H.Mem.Lists.Own.cap, .int .i64 x.Clock.Epoch, .slice H.Clock.Pins.a H.Clock.Pins.len H.Clock.Pins.cap, .slice H.Limbo.a H.Limbo.len H.Limbo.cap, .slice H.Haz.a H.Haz.len H.Haz.cap] := Box.new w #[.slice H.Mem.Heap.Bytes.a H.Mem.Heap.Bytes.len H.Mem.Heap.Bytes.cap, .slice H.Mem.Heap.Class.a H.Mem.Heap.Class.len H.Mem.Heap.Class.cap, .slice H.Mem.Lists.Global.a H.Mem.Lists.Global.len H.Mem.Lists.Global.cap, .slice H.Mem.Lists.Own.a H.Mem.Lists.Own.len H.Mem.Lists.Own.cap, .int .i64 x.Clock.Epoch, .slice H.Clock.Pins.a H.Clock.Pins.len H.Clock.Pins.cap, .slice H.Limbo.a H.Limbo.len H.Limbo.cap, .slice H.Haz.a H.Haz.len H.Haz.cap] _
  have hB0 : Below w.heap.size w (w.alloc (.cells #[.slice H.Mem.Heap.Bytes.a H.Mem.Heap.Bytes.len H.Mem.Heap.Bytes.cap, .slice H.Mem.Heap.Class.a H.Mem.Heap.Class.len H.Mem.Heap.Class.cap, .slice H.Mem.Lists.Global.a H.Mem.Lists.Global.len H.Mem.Lists.Global.cap, .slice H.Mem.Lists.Own.a H.Mem.Lists.Own.len H.Mem.Lists.Own.cap, .int .i64 x.Clock.Epoch, .slice H.Clock.Pins.a H.Clock.Pins.len H.Clock.Pins.cap, .slice H.Limbo.a H.Limbo.len H.Limbo.cap, .slice H.Haz.a H.Haz.len H.Haz.cap] 37)) := by repeat (first | exact Below.refl _ _ | refine Below.alloc ?_ (by simp <;> omega) _ | refine below_grow_of ?_ (by simp <;> omega) _ _ | refine Below.drew ?_ | refine below_drewN ?_ _)
  have hO0 : OwL FI 3 ((w.alloc (.cells #[.slice H.Mem.Heap.Bytes.a H.Mem.Heap.Bytes.len H.Mem.Heap.Bytes.cap, .slice H.Mem.Heap.Class.a H.Mem.Heap.Class.len H.Mem.Heap.Class.cap, .slice H.Mem.Lists.Global.a H.Mem.Lists.Global.len H.Mem.Lists.Global.cap, .slice H.Mem.Lists.Own.a H.Mem.Lists.Own.len H.Mem.Lists.Own.cap, .int .i64 x.Clock.Epoch, .slice H.Clock.Pins.a H.Clock.Pins.len H.Clock.Pins.cap, .slice H.Limbo.a H.Limbo.len H.Limbo.cap, .slice H.Haz.a H.Haz.len H.Haz.cap] 37)).alloc (.cells (madeCells #[.int .i64 0] (5 * FI.n)) 3)) (.slice (some ⟨w.heap.size + 1, 0, none⟩) 5 5) [0, 0, 0, 0, 0] := by
    have ho := OwL.made FI #[.int .i64 0] rfl 5 (by simp [maxLen]) (w.alloc (.cells #[.slice H.Mem.Heap.Bytes.a H.Mem.Heap.Bytes.len H.Mem.Heap.Bytes.cap, .slice H.Mem.Heap.Class.a H.Mem.Heap.Class.len H.Mem.Heap.Class.cap, .slice H.Mem.Lists.Global.a H.Mem.Lists.Global.len H.Mem.Lists.Global.cap, .slice H.Mem.Lists.Own.a H.Mem.Lists.Own.len H.Mem.Lists.Own.cap, .int .i64 x.Clock.Epoch, .slice H.Clock.Pins.a H.Clock.Pins.len H.Clock.Pins.cap, .slice H.Limbo.a H.Limbo.len H.Limbo.cap, .slice H.Haz.a H.Haz.len H.Haz.cap] 37)) 3
    rw [World.size_alloc] at ho
    exact ho
  have ba00 := ba0.alloc (.cells (madeCells #[.int .i64 0] (5 * FI.n)) 3)
  have hB00 := hB0.alloc hB0.size (.cells (madeCells #[.int .i64 0] (5 * FI.n)) 3)
  have kB := fun (W : World) (hW : Below w.heap.size w W) => BaseOk_spec W H x (rdBase_up h hW) hs hs1 hs2
  have kW := fun (hsh : shapeB x.Mem.Heap = true) (s : Int) (W : World) (hW : Below w.heap.size w W) => l13Where_spec W H x s (rdBase_up h hW) hsh hs hs1 hs2
  clear h
  clear hB0 ba0
  by_cases k1 : baseOkB x = true
  case neg =>
    have k1' : baseOkB x = false := (Bool.not_eq_true _).mp k1
    have HN := Hid.mk_ (show tallyP x = [0, 0, 0, 0, 0] from if_neg k1)
    clear k1
    go_enter Tryz.func33, Tryz.ntmps33
    go_wp2_with fail
    clear hmk
    generalize hW0 : ((w.alloc (.cells #[.slice H.Mem.Heap.Bytes.a H.Mem.Heap.Bytes.len H.Mem.Heap.Bytes.cap, .slice H.Mem.Heap.Class.a H.Mem.Heap.Class.len H.Mem.Heap.Class.cap, .slice H.Mem.Lists.Global.a H.Mem.Lists.Global.len H.Mem.Lists.Global.cap, .slice H.Mem.Lists.Own.a H.Mem.Lists.Own.len H.Mem.Lists.Own.cap, .int .i64 x.Clock.Epoch, .slice H.Clock.Pins.a H.Clock.Pins.len H.Clock.Pins.cap, .slice H.Limbo.a H.Limbo.len H.Limbo.cap, .slice H.Haz.a H.Haz.len H.Haz.cap] 37)).alloc (.cells (madeCells #[.int .i64 0] (5 * FI.n)) 3)) = w0 at hO0 ba00 hB00 ⊢
    clear hW0
    refine (kB _ hB00).mono ?_
    rw [k1']
    rintro e w1 ⟨rfl, hb⟩
    have hO1 := hO0.keep (fun g hg => hb.block g (foot_lt hO0 g (mem_foot1.2 hg)))
    have ba1 := ba00.below hb
    have hB1 := hB00.trans (hb.mono hB00.size)
    clear hb hO0 ba00 hB00 kB k1'
    go_wp2_with fail
    go_loopw [5] (fun i wr => i = .int .i64 0 ∧ OwL FI 3 wr (.slice (some ⟨w.heap.size + 1, 0, none⟩) 5 5) [0, 0, 0, 0, 0] ∧ Below w.heap.size w wr) (fun _ _ => 0)
    case atStart => exact ⟨rfl, hO1, hB1⟩
    case round =>
      obtain ⟨rfl, ho, hb⟩ := hrel
      go_wp2_with fail
      go_ret
      exact ⟨_, rfl, by rw [HN.out]; exact ho, by simp [foot1, Value.ownBlock], hb⟩
  have HN := Hid.mk_ (show tallyP x = cntB x 24 from if_pos k1)
  have HS := Hid.mk_ (base_shape k1)
  have k1' := k1
  clear k1
  go_enter Tryz.func33, Tryz.ntmps33
  go_wp2_with fail
  clear hmk
  generalize hW0 : ((w.alloc (.cells #[.slice H.Mem.Heap.Bytes.a H.Mem.Heap.Bytes.len H.Mem.Heap.Bytes.cap, .slice H.Mem.Heap.Class.a H.Mem.Heap.Class.len H.Mem.Heap.Class.cap, .slice H.Mem.Lists.Global.a H.Mem.Lists.Global.len H.Mem.Lists.Global.cap, .slice H.Mem.Lists.Own.a H.Mem.Lists.Own.len H.Mem.Lists.Own.cap, .int .i64 x.Clock.Epoch, .slice H.Clock.Pins.a H.Clock.Pins.len H.Clock.Pins.cap, .slice H.Limbo.a H.Limbo.len H.Limbo.cap, .slice H.Haz.a H.Haz.len H.Haz.cap] 37)).alloc (.cells (madeCells #[.int .i64 0] (5 * FI.n)) 3)) = w0 at hO0 ba00 hB00 ⊢
  clear hW0
  refine (kB _ hB00).mono ?_
  rw [k1']
  rintro e w1 ⟨rfl, hb⟩
  have hO1 := hO0.keep (fun g hg => hb.block g (foot_lt hO0 g (mem_foot1.2 hg)))
  have ba1 := ba00.below hb
  have hB1 := hB00.trans (hb.mono hB00.size)
  clear hb hO0 ba00 hB00 kB k1'
  go_wp2_with fail
  go_loopw [5] (fun i wr => ∃ k : Nat, k ≤ 24 ∧ i = .int .i64 k ∧ OwL FI 3 wr (.slice (some ⟨w.heap.size + 1, 0, none⟩) 5 5) (cntB x k) ∧ Box wr w.heap.size [.slice H.Mem.Heap.Bytes.a H.Mem.Heap.Bytes.len H.Mem.Heap.Bytes.cap, .slice H.Mem.Heap.Class.a H.Mem.Heap.Class.len H.Mem.Heap.Class.cap, .slice H.Mem.Lists.Global.a H.Mem.Lists.Global.len H.Mem.Lists.Global.cap, .slice H.Mem.Lists.Own.a H.Mem.Lists.Own.len H.Mem.Lists.Own.cap, .int .i64 x.Clock.Epoch, .slice H.Clock.Pins.a H.Clock.Pins.len H.Clock.Pins.cap, .slice H.Limbo.a H.Limbo.len H.Limbo.cap, .slice H.Haz.a H.Haz.len H.Haz.cap] ∧ Below w.heap.size w wr) (fun i _ => 24 - (intOf i).toNat)
  case atStart => exact ⟨0, Nat.zero_le _, rfl, hO1, ba1, hB1⟩
  case round =>
    obtain ⟨k, hk, rfl, ho, ba, hb⟩ := hrel
    clear hO1 ba1 hB1
    by_cases hlt : k < 24
    · obtain ⟨j, hj, hst⟩ := where_nat x (k : Int)
      have HC := Hid.mk_ (cntB_step hst)
      have hcg := cntB_get x k hj
      have hbd := cntB_bd x k j
      have hq := kW HS.out (k : Int)
      rw [hst] at hq
      clear hst kW
      have qa0 := ba.cell 0 _ rfl; have qa1 := ba.cell 1 _ rfl; have qa2 := ba.cell 2 _ rfl; have qa3 := ba.cell 3 _ rfl; have qa4 := ba.cell 4 _ rfl; have qa5 := ba.cell 5 _ rfl; have qa6 := ba.cell 6 _ rfl; have qa7 := ba.cell 7 _ rfl; have hlb := ba.lt
      generalize (cntB x k).getD j 0 = v at *
      go_wp2_with fail
      refine (hq _ hb).mono ?_
      rintro e w2 ⟨rfl, hb2⟩
      have hoN := ho.keep (fun g hg => hb2.block g (foot_lt ho g (mem_foot1.2 hg)))
      have baN := ba.below hb2
      have hBN := hb.trans (hb2.mono hb.size)
      clear hb2 hq ho ba hb
      have hf := hoN.frozen_ j
      have hx := hoN.cell_ hcg FI.pos
      have hset := hoN.set_ (y := v + 1) (u := .int .i64 (v + 1)) hcg FI.pos rfl
      simp only [FI, Nat.mul_one, Nat.add_zero] at hx
      have h1 : OwL FI 3 (w2.setCell ⟨w.heap.size + 1, j, none⟩ (.int .i64 (v + 1))) (.slice (some ⟨w.heap.size + 1, 0, none⟩) 5 5) ((cntB x k).set j (v + 1)) := by
        have h1 := hset
        rw [show j * FI.n + 0 = j by simp [FI]] at h1
        exact h1
      have hj' : (j : Int) < 5 := by omega
      clear hset
      clear qa0 qa1 qa2 qa3 qa4 qa5 qa6 qa7 hcg
      go_wp2
      go_roundw
      case rel => exact ⟨k + 1, by omega, by go_num, by rw [HC.out]; exact h1, baN.other (by omega) _, hBN.setCell (by simp) _⟩
      case measure => simp [intOf]; omega
    · go_wp2
      go_ret
      obtain rfl : k = 24 := by omega
      exact ⟨_, rfl, by rw [HN.out]; exact ho, by simp [foot1, Value.ownBlock], hb⟩
end Go.Proofs.YtkldapdpaldbgaaGreat
namespace Go.Proofs.YtkldapdpaldbgaaGreat
open Go.RowKit
open Go.RowKit Go.Lib Go.Sort
attribute [local go_sem ↓] execJob
attribute [local go_sem] loadResJob

def nApp (j : Job) : Bool := j.Op.Kind == 1 && inB 1 3 j.Pc
def niTo (x : Shelf) : Nat → List Int
  | 0 => x.Cells
  | k + 1 => if nApp (x.Jobs.getD k zeroJob) = true then niTo x k ++ [nV x k] else niTo x k
theorem niTo_len (x : Shelf) : ∀ k, (niTo x k).length ≤ x.Cells.length + k
  | 0 => Nat.le_refl _
  | k + 1 => by
    have := niTo_len x k
    unfold niTo
    split
    · simp; omega
    · omega
theorem nVal_app {j : Job} (h : nVal j ≠ 0) : nApp j = true := by
  unfold nVal at h
  unfold nApp
  rw [Bool.and_eq_true, beq_iff_eq, inB_iff]
  by_cases k : j.Op.Kind = 1
  · rw [if_pos k] at h
    refine ⟨k, ?_⟩
    by_cases c : j.Pc = 1 ∨ j.Pc = 2
    · omega
    · rw [if_neg c] at h
      by_cases d : j.Pc = 3
      · omega
      · rw [if_neg d] at h; exact absurd rfl h
  · rw [if_neg k] at h; exact absurd rfl h
theorem niTo_mem (x : Shelf) (h : Int) (hz : h ≠ 0) : ∀ k, h ∈ niTo x k ↔ h ∈ x.Cells ∨ ∃ i, i < k ∧ h = nV x i
  | 0 => by simp [niTo]
  | k + 1 => by
    have ih := niTo_mem x h hz k
    unfold niTo
    by_cases c : nApp (x.Jobs.getD k zeroJob) = true
    · rw [if_pos c, List.mem_append, List.mem_singleton, ih]
      constructor
      · rintro ((a | ⟨i, hi, e⟩) | e)
        · exact Or.inl a
        · exact Or.inr ⟨i, by omega, e⟩
        · exact Or.inr ⟨k, by omega, e⟩
      · rintro (a | ⟨i, hi, e⟩)
        · exact Or.inl (Or.inl a)
        · by_cases hk : i = k
          · exact Or.inr (hk ▸ e)
          · exact Or.inl (Or.inr ⟨i, by omega, e⟩)
    · rw [if_neg c, ih]
      constructor
      · rintro (a | ⟨i, hi, e⟩)
        · exact Or.inl a
        · exact Or.inr ⟨i, by omega, e⟩
      · rintro (a | ⟨i, hi, e⟩)
        · exact Or.inl a
        · by_cases hk : i = k
          · subst hk
            exact absurd (nVal_app (show nVal (x.Jobs.getD i zeroJob) ≠ 0 from fun z => hz (e.trans z))) c
          · exact Or.inr ⟨i, by omega, e⟩
theorem mem_cells {l : List Int} (hl : l.length = 2) (h : Int) : h ∈ l ↔ ∃ i, i < 2 ∧ h = l.getD i 0 := by
  rw [List.mem_iff_getElem]
  constructor
  · rintro ⟨i, hi, rfl⟩
    exact ⟨i, by omega, by simp [List.getD, hi]⟩
  · rintro ⟨i, hi, rfl⟩
    exact ⟨i, by omega, by simp [List.getD, show i < l.length by omega]⟩
theorem ni_nj {x : Shelf} (h : shelfOkB x = true) (v : Int) : (v ∈ niTo x 3 ∧ v ≠ 0) ↔ v ∈ njTo x 3 := by
  rw [njTo_mem]
  constructor
  · rintro ⟨a, z⟩
    rw [niTo_mem x v z, mem_cells (shelf_cells h)] at a
    exact ⟨z, a⟩
  · rintro ⟨z, a⟩
    rw [niTo_mem x v z, mem_cells (shelf_cells h)]
    exact ⟨a, z⟩
theorem own_base {w : World} {B n : Nat} {e : TypeId} {v : Value} {cells : List Value} (h : w.ownsRow B e 1 v n cells) : w.ownsRow 0 e 1 v n cells ∧ ∀ g ∈ foot1 v, B ≤ g := by
  rcases h.2 with ⟨h0, h1⟩ | ⟨g, cap, cur, hv, hBg, a, b, c, d, f⟩
  · exact ⟨⟨h.1, .inl ⟨h0, h1⟩⟩, by rw [h0]; simp [foot1, Value.ownBlock]⟩
  · refine ⟨⟨h.1, .inr ⟨g, cap, cur, hv, Nat.zero_le _, a, b, c, d, f⟩⟩, fun q hq => ?_⟩
    rw [hv] at hq
    simp [foot1, Value.ownBlock] at hq
    omega
theorem clone_cells (w : World) (b off c : Nat) (l : List Int) (hn : l.length ≤ 1000) (hc : ∀ j u, (flat FI l)[j]? = some u → w.cell? ⟨b, off + j, none⟩ = some u) :
    Calls Tryz.prog 154 #[.slice (some ⟨b, off, none⟩) l.length c] w fun e w' => ∃ v', e = .returned v' ∧ OwL FI 3 w' v' l ∧ (∀ g ∈ foot1 v', w.heap.size ≤ g) ∧ Below w.heap.size w w' := by
  have hc' : ∀ j, j < l.length → w.cell? ⟨b, off + j, none⟩ = some (.int .i64 (l.getD j 0)) := fun j hj => hc j _ (by rw [flat_FI]; simp [List.getD, hj])
  refine (Tryz.slices_Clone_int b off l.length c l w (Nat.le_refl _) (by omega) hc').mono ?_
  rintro e w' ⟨v', he, ho, _, hb⟩
  rw [List.take_length] at ho
  obtain ⟨h0, hf⟩ := own_base ho
  exact ⟨v', he, by show w'.ownsRow 0 _ 1 v' l.length (flat FI l); rw [flat_FI]; exact h0, hf, hb⟩

set_option maxRecDepth 100000 in
set_option maxHeartbeats 8000000 in
theorem Named_impl (w : World) (H : HShelf) (x : Shelf) (h : RdShelf w w.heap.size H x) (hs : szLL x.Base.Limbo ≤ 536870912) :
    Calls Tryz.prog 81 #[.agg #[.slice H.Base.Mem.Heap.Bytes.a H.Base.Mem.Heap.Bytes.len H.Base.Mem.Heap.Bytes.cap, .slice H.Base.Mem.Heap.Class.a H.Base.Mem.Heap.Class.len H.Base.Mem.Heap.Class.cap, .slice H.Base.Mem.Lists.Global.a H.Base.Mem.Lists.Global.len H.Base.Mem.Lists.Global.cap, .slice H.Base.Mem.Lists.Own.a H.Base.Mem.Lists.Own.len H.Base.Mem.Lists.Own.cap, .int .i64 x.Base.Clock.Epoch, .slice H.Base.Clock.Pins.a H.Base.Clock.Pins.len H.Base.Clock.Pins.cap, .slice H.Base.Limbo.a H.Base.Limbo.len H.Base.Limbo.cap, .slice H.Base.Haz.a H.Base.Haz.len H.Base.Haz.cap, .slice H.Cells.a H.Cells.len H.Cells.cap, .slice H.Jobs.a H.Jobs.len H.Jobs.cap, .slice H.Todo.a H.Todo.len H.Todo.cap, .slice H.Log.a H.Log.len H.Log.cap, .int .i64 x.Serial]] w fun e w' => ∃ v' l', e = .returned v' ∧ RdL FI w' w'.heap.size v' l' ∧ l'.Nodup ∧ (∀ v, v ∈ l' ↔ v ∈ namedS x) ∧ Below w.heap.size w w' := by
  have kB := fun (W : World) (hW : Below w.heap.size w W) => ShelfOk_impl W H x (rdShelf_up h hW) hs
  have rC := h.Cells
  have rJ := h.Jobs
  clear h
  cases hok : shelfOkB x with
  | false =>
    have HN := Hid.mk_ (show namedS x = [] from if_neg (by rw [hok]; decide))
    have ba : Box (w.alloc (.cells #[.slice H.Base.Mem.Heap.Bytes.a H.Base.Mem.Heap.Bytes.len H.Base.Mem.Heap.Bytes.cap, .slice H.Base.Mem.Heap.Class.a H.Base.Mem.Heap.Class.len H.Base.Mem.Heap.Class.cap, .slice H.Base.Mem.Lists.Global.a H.Base.Mem.Lists.Global.len H.Base.Mem.Lists.Global.cap, .slice H.Base.Mem.Lists.Own.a H.Base.Mem.Lists.Own.len H.Base.Mem.Lists.Own.cap, .int .i64 x.Base.Clock.Epoch, .slice H.Base.Clock.Pins.a H.Base.Clock.Pins.len H.Base.Clock.Pins.cap, .slice H.Base.Limbo.a H.Base.Limbo.len H.Base.Limbo.cap, .slice H.Base.Haz.a H.Base.Haz.len H.Base.Haz.cap, .slice H.Cells.a H.Cells.len H.Cells.cap, .slice H.Jobs.a H.Jobs.len H.Jobs.cap, .slice H.Todo.a H.Todo.len H.Todo.cap, .slice H.Log.a H.Log.len H.Log.cap, .int .i64 x.Serial] 69)) w.heap.size [.slice H.Base.Mem.Heap.Bytes.a H.Base.Mem.Heap.Bytes.len H.Base.Mem.Heap.Bytes.cap, .slice H.Base.Mem.Heap.Class.a H.Base.Mem.Heap.Class.len H.Base.Mem.Heap.Class.cap, .slice H.Base.Mem.Lists.Global.a H.Base.Mem.Lists.Global.len H.Base.Mem.Lists.Global.cap, .slice H.Base.Mem.Lists.Own.a H.Base.Mem.Lists.Own.len H.Base.Mem.Lists.Own.cap, .int .i64 x.Base.Clock.Epoch, .slice H.Base.Clock.Pins.a H.Base.Clock.Pins.len H.Base.Clock.Pins.cap, .slice H.Base.Limbo.a H.Base.Limbo.len H.Base.Limbo.cap, .slice H.Base.Haz.a H.Base.Haz.len H.Base.Haz.cap, .slice H.Cells.a H.Cells.len H.Cells.cap, .slice H.Jobs.a H.Jobs.len H.Jobs.cap, .slice H.Todo.a H.Todo.len H.Todo.cap, .slice H.Log.a H.Log.len H.Log.cap, .int .i64 x.Serial] := Box.new w #[.slice H.Base.Mem.Heap.Bytes.a H.Base.Mem.Heap.Bytes.len H.Base.Mem.Heap.Bytes.cap, .slice H.Base.Mem.Heap.Class.a H.Base.Mem.Heap.Class.len H.Base.Mem.Heap.Class.cap, .slice H.Base.Mem.Lists.Global.a H.Base.Mem.Lists.Global.len H.Base.Mem.Lists.Global.cap, .slice H.Base.Mem.Lists.Own.a H.Base.Mem.Lists.Own.len H.Base.Mem.Lists.Own.cap, .int .i64 x.Base.Clock.Epoch, .slice H.Base.Clock.Pins.a H.Base.Clock.Pins.len H.Base.Clock.Pins.cap, .slice H.Base.Limbo.a H.Base.Limbo.len H.Base.Limbo.cap, .slice H.Base.Haz.a H.Base.Haz.len H.Base.Haz.cap, .slice H.Cells.a H.Cells.len H.Cells.cap, .slice H.Jobs.a H.Jobs.len H.Jobs.cap, .slice H.Todo.a H.Todo.len H.Todo.cap, .slice H.Log.a H.Log.len H.Log.cap, .int .i64 x.Serial] 69
    have hB : Below w.heap.size w (w.alloc (.cells #[.slice H.Base.Mem.Heap.Bytes.a H.Base.Mem.Heap.Bytes.len H.Base.Mem.Heap.Bytes.cap, .slice H.Base.Mem.Heap.Class.a H.Base.Mem.Heap.Class.len H.Base.Mem.Heap.Class.cap, .slice H.Base.Mem.Lists.Global.a H.Base.Mem.Lists.Global.len H.Base.Mem.Lists.Global.cap, .slice H.Base.Mem.Lists.Own.a H.Base.Mem.Lists.Own.len H.Base.Mem.Lists.Own.cap, .int .i64 x.Base.Clock.Epoch, .slice H.Base.Clock.Pins.a H.Base.Clock.Pins.len H.Base.Clock.Pins.cap, .slice H.Base.Limbo.a H.Base.Limbo.len H.Base.Limbo.cap, .slice H.Base.Haz.a H.Base.Haz.len H.Base.Haz.cap, .slice H.Cells.a H.Cells.len H.Cells.cap, .slice H.Jobs.a H.Jobs.len H.Jobs.cap, .slice H.Todo.a H.Todo.len H.Todo.cap, .slice H.Log.a H.Log.len H.Log.cap, .int .i64 x.Serial] 69)) := by repeat (first | exact Below.refl _ _ | refine Below.alloc ?_ (by simp <;> omega) _ | refine below_grow_of ?_ (by simp <;> omega) _ _ | refine Below.drew ?_ | refine below_drewN ?_ _)
    go_enter Tryz.func81, Tryz.ntmps81
    go_wp2_with fail
    generalize hW0 : (w.alloc (.cells #[.slice H.Base.Mem.Heap.Bytes.a H.Base.Mem.Heap.Bytes.len H.Base.Mem.Heap.Bytes.cap, .slice H.Base.Mem.Heap.Class.a H.Base.Mem.Heap.Class.len H.Base.Mem.Heap.Class.cap, .slice H.Base.Mem.Lists.Global.a H.Base.Mem.Lists.Global.len H.Base.Mem.Lists.Global.cap, .slice H.Base.Mem.Lists.Own.a H.Base.Mem.Lists.Own.len H.Base.Mem.Lists.Own.cap, .int .i64 x.Base.Clock.Epoch, .slice H.Base.Clock.Pins.a H.Base.Clock.Pins.len H.Base.Clock.Pins.cap, .slice H.Base.Limbo.a H.Base.Limbo.len H.Base.Limbo.cap, .slice H.Base.Haz.a H.Base.Haz.len H.Base.Haz.cap, .slice H.Cells.a H.Cells.len H.Cells.cap, .slice H.Jobs.a H.Jobs.len H.Jobs.cap, .slice H.Todo.a H.Todo.len H.Todo.cap, .slice H.Log.a H.Log.len H.Log.cap, .int .i64 x.Serial] 69)) = w0 at ba hB ⊢
    clear hW0
    refine (kB _ hB).mono ?_
    rw [hok]
    rintro e w1 ⟨rfl, hb⟩
    replace ba := ba.below hb
    replace hB := hB.trans (hb.mono hB.size)
    clear hb kB
    go_wp2_with fail
    go_ret
    exact ⟨_, [], rfl, ⟨none, 0, rfl, Nat.zero_le _, by simp [maxLen], fun a => absurd rfl a⟩, List.nodup_nil, fun v => by rw [HN.out], hB⟩
  | true =>
    have HN := Hid.mk_ (show namedS x = njTo x 3 from if_pos hok)
    have HM := Hid.mk_ (fun v => ni_nj hok v)
    have lJ := shelf_jobs hok
    have lC := shelf_cells hok
    obtain ⟨Aj, nj, cj, hvj⟩ : ∃ A n c, H.Jobs = ⟨A, n, c⟩ := ⟨_, _, _, rfl⟩
    rw [hvj] at rJ kB ⊢
    clear hvj
    obtain ⟨Ac, nc, cc, hvc⟩ : ∃ A n c, H.Cells = ⟨A, n, c⟩ := ⟨_, _, _, rfl⟩
    rw [hvc] at rC kB ⊢
    clear hvc
    simp only [SV.val] at rJ rC
    obtain rfl : nj = 3 := (RdL.len_ rJ).1.trans lJ
    obtain rfl : nc = 2 := (RdL.len_ rC).1.trans lC
    have HLC := Hid.mk_ lC
    show Calls Tryz.prog 81 #[.agg #[.slice H.Base.Mem.Heap.Bytes.a H.Base.Mem.Heap.Bytes.len H.Base.Mem.Heap.Bytes.cap, .slice H.Base.Mem.Heap.Class.a H.Base.Mem.Heap.Class.len H.Base.Mem.Heap.Class.cap, .slice H.Base.Mem.Lists.Global.a H.Base.Mem.Lists.Global.len H.Base.Mem.Lists.Global.cap, .slice H.Base.Mem.Lists.Own.a H.Base.Mem.Lists.Own.len H.Base.Mem.Lists.Own.cap, .int .i64 x.Base.Clock.Epoch, .slice H.Base.Clock.Pins.a H.Base.Clock.Pins.len H.Base.Clock.Pins.cap, .slice H.Base.Limbo.a H.Base.Limbo.len H.Base.Limbo.cap, .slice H.Base.Haz.a H.Base.Haz.len H.Base.Haz.cap, .slice Ac 2 cc, .slice Aj 3 cj, .slice H.Todo.a H.Todo.len H.Todo.cap, .slice H.Log.a H.Log.len H.Log.cap, .int .i64 x.Serial]] _ _
    have ba : Box (w.alloc (.cells #[.slice H.Base.Mem.Heap.Bytes.a H.Base.Mem.Heap.Bytes.len H.Base.Mem.Heap.Bytes.cap, .slice H.Base.Mem.Heap.Class.a H.Base.Mem.Heap.Class.len H.Base.Mem.Heap.Class.cap, .slice H.Base.Mem.Lists.Global.a H.Base.Mem.Lists.Global.len H.Base.Mem.Lists.Global.cap, .slice H.Base.Mem.Lists.Own.a H.Base.Mem.Lists.Own.len H.Base.Mem.Lists.Own.cap, .int .i64 x.Base.Clock.Epoch, .slice H.Base.Clock.Pins.a H.Base.Clock.Pins.len H.Base.Clock.Pins.cap, .slice H.Base.Limbo.a H.Base.Limbo.len H.Base.Limbo.cap, .slice H.Base.Haz.a H.Base.Haz.len H.Base.Haz.cap, .slice Ac 2 cc, .slice Aj 3 cj, .slice H.Todo.a H.Todo.len H.Todo.cap, .slice H.Log.a H.Log.len H.Log.cap, .int .i64 x.Serial] 69)) w.heap.size [.slice H.Base.Mem.Heap.Bytes.a H.Base.Mem.Heap.Bytes.len H.Base.Mem.Heap.Bytes.cap, .slice H.Base.Mem.Heap.Class.a H.Base.Mem.Heap.Class.len H.Base.Mem.Heap.Class.cap, .slice H.Base.Mem.Lists.Global.a H.Base.Mem.Lists.Global.len H.Base.Mem.Lists.Global.cap, .slice H.Base.Mem.Lists.Own.a H.Base.Mem.Lists.Own.len H.Base.Mem.Lists.Own.cap, .int .i64 x.Base.Clock.Epoch, .slice H.Base.Clock.Pins.a H.Base.Clock.Pins.len H.Base.Clock.Pins.cap, .slice H.Base.Limbo.a H.Base.Limbo.len H.Base.Limbo.cap, .slice H.Base.Haz.a H.Base.Haz.len H.Base.Haz.cap, .slice Ac 2 cc, .slice Aj 3 cj, .slice H.Todo.a H.Todo.len H.Todo.cap, .slice H.Log.a H.Log.len H.Log.cap, .int .i64 x.Serial] := Box.new w #[.slice H.Base.Mem.Heap.Bytes.a H.Base.Mem.Heap.Bytes.len H.Base.Mem.Heap.Bytes.cap, .slice H.Base.Mem.Heap.Class.a H.Base.Mem.Heap.Class.len H.Base.Mem.Heap.Class.cap, .slice H.Base.Mem.Lists.Global.a H.Base.Mem.Lists.Global.len H.Base.Mem.Lists.Global.cap, .slice H.Base.Mem.Lists.Own.a H.Base.Mem.Lists.Own.len H.Base.Mem.Lists.Own.cap, .int .i64 x.Base.Clock.Epoch, .slice H.Base.Clock.Pins.a H.Base.Clock.Pins.len H.Base.Clock.Pins.cap, .slice H.Base.Limbo.a H.Base.Limbo.len H.Base.Limbo.cap, .slice H.Base.Haz.a H.Base.Haz.len H.Base.Haz.cap, .slice Ac 2 cc, .slice Aj 3 cj, .slice H.Todo.a H.Todo.len H.Todo.cap, .slice H.Log.a H.Log.len H.Log.cap, .int .i64 x.Serial] 69
    have hB : Below w.heap.size w (w.alloc (.cells #[.slice H.Base.Mem.Heap.Bytes.a H.Base.Mem.Heap.Bytes.len H.Base.Mem.Heap.Bytes.cap, .slice H.Base.Mem.Heap.Class.a H.Base.Mem.Heap.Class.len H.Base.Mem.Heap.Class.cap, .slice H.Base.Mem.Lists.Global.a H.Base.Mem.Lists.Global.len H.Base.Mem.Lists.Global.cap, .slice H.Base.Mem.Lists.Own.a H.Base.Mem.Lists.Own.len H.Base.Mem.Lists.Own.cap, .int .i64 x.Base.Clock.Epoch, .slice H.Base.Clock.Pins.a H.Base.Clock.Pins.len H.Base.Clock.Pins.cap, .slice H.Base.Limbo.a H.Base.Limbo.len H.Base.Limbo.cap, .slice H.Base.Haz.a H.Base.Haz.len H.Base.Haz.cap, .slice Ac 2 cc, .slice Aj 3 cj, .slice H.Todo.a H.Todo.len H.Todo.cap, .slice H.Log.a H.Log.len H.Log.cap, .int .i64 x.Serial] 69)) := by repeat (first | exact Below.refl _ _ | refine Below.alloc ?_ (by simp <;> omega) _ | refine below_grow_of ?_ (by simp <;> omega) _ _ | refine Below.drew ?_ | refine below_drewN ?_ _)
    go_enter Tryz.func81, Tryz.ntmps81
    go_wp2_with fail
    generalize hW0 : (w.alloc (.cells #[.slice H.Base.Mem.Heap.Bytes.a H.Base.Mem.Heap.Bytes.len H.Base.Mem.Heap.Bytes.cap, .slice H.Base.Mem.Heap.Class.a H.Base.Mem.Heap.Class.len H.Base.Mem.Heap.Class.cap, .slice H.Base.Mem.Lists.Global.a H.Base.Mem.Lists.Global.len H.Base.Mem.Lists.Global.cap, .slice H.Base.Mem.Lists.Own.a H.Base.Mem.Lists.Own.len H.Base.Mem.Lists.Own.cap, .int .i64 x.Base.Clock.Epoch, .slice H.Base.Clock.Pins.a H.Base.Clock.Pins.len H.Base.Clock.Pins.cap, .slice H.Base.Limbo.a H.Base.Limbo.len H.Base.Limbo.cap, .slice H.Base.Haz.a H.Base.Haz.len H.Base.Haz.cap, .slice Ac 2 cc, .slice Aj 3 cj, .slice H.Todo.a H.Todo.len H.Todo.cap, .slice H.Log.a H.Log.len H.Log.cap, .int .i64 x.Serial] 69)) = w0 at ba hB ⊢
    clear hW0
    refine (kB _ hB).mono ?_
    rw [hok]
    rintro e w1 ⟨rfl, hb⟩
    replace ba := ba.below hb
    replace hB := hB.trans (hb.mono hB.size)
    clear hb kB
    clear hok
    have q_a_8 := ba.cell 8 _ rfl
    go_wp2_with fail
    replace rC := rd_up rC hB
    obtain ⟨_, _, he, _, _, hcc⟩ := id rC
    injection he with he1 he2 he3
    clear he2
    subst he1 he3
    obtain ⟨b, off, rfl, hbl, hc⟩ := hcc (by intro e; rw [e] at lC; simp at lC)
    have kc := clone_cells w1 b off cc x.Cells (by omega) hc
    rw [lC] at kc
    clear hc hcc rC lC
    refine kc.mono ?_
    rintro e w2 ⟨v3, rfl, o0, f0, hb⟩
    have f1 : ∀ g ∈ foot1 v3, w.heap.size < g := fun g hg => Nat.lt_of_lt_of_le ba.lt (f0 g hg)
    replace ba := ba.below hb
    replace hB := hB.trans (hb.mono hB.size)
    clear hb kc q_a_8 f0
    have q_a_9 := ba.cell 9 _ rfl
    go_wp2_with fail
    go_loopw [3, 15] (fun o i wr => ∃ k : Nat, k ≤ 3 ∧ i = .int .i64 k ∧ OwL FI 3 wr o (niTo x k) ∧ (∀ g ∈ foot1 o, w.heap.size < g) ∧ Box wr w.heap.size [.slice H.Base.Mem.Heap.Bytes.a H.Base.Mem.Heap.Bytes.len H.Base.Mem.Heap.Bytes.cap, .slice H.Base.Mem.Heap.Class.a H.Base.Mem.Heap.Class.len H.Base.Mem.Heap.Class.cap, .slice H.Base.Mem.Lists.Global.a H.Base.Mem.Lists.Global.len H.Base.Mem.Lists.Global.cap, .slice H.Base.Mem.Lists.Own.a H.Base.Mem.Lists.Own.len H.Base.Mem.Lists.Own.cap, .int .i64 x.Base.Clock.Epoch, .slice H.Base.Clock.Pins.a H.Base.Clock.Pins.len H.Base.Clock.Pins.cap, .slice H.Base.Limbo.a H.Base.Limbo.len H.Base.Limbo.cap, .slice H.Base.Haz.a H.Base.Haz.len H.Base.Haz.cap, .slice (some ⟨b, off, none⟩) 2 cc, .slice Aj 3 cj, .slice H.Todo.a H.Todo.len H.Todo.cap, .slice H.Log.a H.Log.len H.Log.cap, .int .i64 x.Serial] ∧ Below w.heap.size w wr) (fun _ i _ => 3 - (intOf i).toNat)
    case atStart => exact ⟨0, Nat.zero_le _, rfl, o0, f1, ba, hB⟩
    case round =>
      clear o0 ba hB q_a_9 f1
      obtain ⟨k, hk, rfl, ho, hf, ba, hB⟩ := hrel
      have hln : (niTo x k).length ≤ 2 + k := by have a := niTo_len x k; rw [HLC.out] at a; exact a
      by_cases hlt : k < 3
      · have hkj : k < x.Jobs.length := by omega
        have HS : Hid (niTo x (k + 1) = if nApp (x.Jobs.getD k zeroJob) = true then niTo x k ++ [nVal (x.Jobs.getD k zeroJob)] else niTo x k) := Hid.mk_ rfl
        replace rJ := rd_up rJ hB
        have q_a_9 := ba.cell 9 _ rfl
        have zb := ba.lt
        obtain ⟨g, offj, cap', he, hg, _, _, hc⟩ := rJ.range_ (at_of zeroJob hkj)
        injection he with he1 he2 he3
        clear he2
        subst he1 he3
        generalize x.Jobs.getD k zeroJob = j at *
        obtain ⟨cs, hcs⟩ : ∃ cs, cs = FJob.enc j := ⟨_, rfl⟩
        have hlen : cs.length = 21 := by rw [hcs]; exact FJob.len j
        have hO : cs.toArray.all (·.oneCell') = true := by rw [hcs]; exact all_oneCell_toArray (FJob.one j)
        have hsz : (Tryz.prog.info? 146).map (·.size) = some cs.toArray.size := by rw [List.size_toArray, hlen]; exact Tryz.sizeJob
        have HS2 := Hid.mk_ (show cs.toArray.size = 21 by rw [List.size_toArray, hlen])
        rw [show (FJob.n : Nat) = 21 from rfl] at hc
        have bj : Box (wr.alloc (.cells cs.toArray 146)) wr.heap.size cs := Box.new wr cs.toArray 146
        have hr : row? wr g (offj + k * 21) 21 = some cs := row?_of (by rw [hcs]; exact hc) hlen
        have p1 := bj.cell 1 (.int .i64 j.Op.Kind) (by rw [hcs]; rfl)
        have p6 := bj.cell 6 (.int .i64 j.Pc) (by rw [hcs]; rfl)
        have p17 := bj.cell 17 (.int .i64 j.H) (by rw [hcs]; rfl)
        have p18 := bj.cell 18 (.int .i64 j.Old) (by rw [hcs]; rfl)
        have hzl : wr.heap.size < (wr.alloc (.cells cs.toArray 146)).heap.size := bj.lt
        have HP : Hid (nVal j = if j.Op.Kind = 1 then (if j.Pc = 1 ∨ j.Pc = 2 then j.H else if j.Pc = 3 then j.Old else 0) else 0) := Hid.mk_ rfl
        have HA : Hid (nApp j = (j.Op.Kind == 1 && inB 1 3 j.Pc)) := Hid.mk_ rfl
        have hsz2 := hB.size
        clear hcs hc hlen rJ lJ hkj bj
        generalize nVal j = nv at *
        generalize nApp j = na at *
        generalize j.Op.Kind = kd at *
        generalize j.Pc = pc at *
        generalize j.H = hh at *
        generalize j.Old = oo at *
        by_cases k1 : kd = 1
        · have k1a : (kd == 1) = true := by simpa using k1
          cases hin : inB 1 2 pc with
          | true =>
            replace HS : Hid (niTo x (k + 1) = niTo x k ++ [hh]) := Hid.mk_ (by rw [HS.out, HA.out, HP.out]; have q := inB_iff.1 hin; have q3 : inB 1 3 pc = true := inB_iff.2 (by omega); rw [q3, k1a, if_pos (by rfl), if_pos k1, if_pos (by omega)])
            have hl1 : OwL FI 3 ((wr.alloc (.cells cs.toArray 146)).alloc (.cells #[.int .i64 hh] 3)) (.slice (some ⟨wr.heap.size + 1, 0, none⟩) 1 1) [hh] := by
              have a := OwL.lit FI [hh] #[.int .i64 hh] rfl (by simp [maxLen]) (wr.alloc (.cells cs.toArray 146)) 3
              rwa [World.size_alloc] at a
            go_wp2_with (first | (go_at_call 111; refine (within_ct _ _ _ _).mono ?_; rintro e wq ⟨rfl, rfl⟩) | (at_builtin; refine wpList_append_flat Tryz.stInt rfl _ _ rfl (v := u3) (y := .slice (some ⟨wr.heap.size + 1, 0, none⟩) 1 1) (l := niTo x k) (m := [hh]) rfl rfl ((ho.alloc_ _).alloc_ _) hl1.rd' (by simp; omega) ?_; intro v' w5 ho' hg' hat') | (have hz9 := hsz; clear hsz; refine wpList_store_new2 rfl 146 (.tmp 5) (.tmp 18) rfl cs.toArray rfl rfl hz9 (by rw [HS2.out]; rfl) hO ?_; clear hz9))
            have hB5 : Below w.heap.size wr w5 := (((Below.refl _ _).alloc hsz2 _).alloc (by simp; omega) _).grown hg' (by first | omega | (simp; omega)) (fun b hb' => Nat.le_of_lt (hf b (mem_foot1.2 hb')))
            have ba5 := ((ba.alloc (.cells cs.toArray 146)).alloc (.cells #[.int .i64 hh] 3)).chg (Chg.of_grown hg') (fun hm => by have := hf _ hm; omega)
            go_roundw
            case rel =>
              refine ⟨k + 1, by omega, by go_num, by rw [HS.out]; exact ho', fun b hb' => ?_, ba5, hB.trans hB5⟩
              rcases foot_app hat' b hb' with h1 | h1
              · exact hf b h1
              · simp at h1
                omega
            case measure => simp [intOf]; omega
          | false =>
            by_cases c3 : pc = 3
            · have c3a : (pc == 3) = true := by simpa using c3
              replace HS : Hid (niTo x (k + 1) = niTo x k ++ [oo]) := Hid.mk_ (by rw [HS.out, HA.out, HP.out]; have q3 : inB 1 3 pc = true := inB_iff.2 (by omega); rw [q3, k1a, if_pos (by rfl), if_pos k1, if_neg (by omega), if_pos c3])
              have hl1 : OwL FI 3 ((wr.alloc (.cells cs.toArray 146)).alloc (.cells #[.int .i64 oo] 3)) (.slice (some ⟨wr.heap.size + 1, 0, none⟩) 1 1) [oo] := by
                have a := OwL.lit FI [oo] #[.int .i64 oo] rfl (by simp [maxLen]) (wr.alloc (.cells cs.toArray 146)) 3
                rwa [World.size_alloc] at a
              go_wp2_with (first | (go_at_call 111; refine (within_ct _ _ _ _).mono ?_; rintro e wq ⟨rfl, rfl⟩) | (at_builtin; refine wpList_append_flat Tryz.stInt rfl _ _ rfl (v := u3) (y := .slice (some ⟨wr.heap.size + 1, 0, none⟩) 1 1) (l := niTo x k) (m := [oo]) rfl rfl ((ho.alloc_ _).alloc_ _) hl1.rd' (by simp; omega) ?_; intro v' w5 ho' hg' hat') | (have hz9 := hsz; clear hsz; refine wpList_store_new2 rfl 146 (.tmp 5) (.tmp 18) rfl cs.toArray rfl rfl hz9 (by rw [HS2.out]; rfl) hO ?_; clear hz9))
              have hB5 : Below w.heap.size wr w5 := (((Below.refl _ _).alloc hsz2 _).alloc (by simp; omega) _).grown hg' (by first | omega | (simp; omega)) (fun b hb' => Nat.le_of_lt (hf b (mem_foot1.2 hb')))
              have ba5 := ((ba.alloc (.cells cs.toArray 146)).alloc (.cells #[.int .i64 oo] 3)).chg (Chg.of_grown hg') (fun hm => by have := hf _ hm; omega)
              go_roundw
              case rel =>
                refine ⟨k + 1, by omega, by go_num, by rw [HS.out]; exact ho', fun b hb' => ?_, ba5, hB.trans hB5⟩
                rcases foot_app hat' b hb' with h1 | h1
                · exact hf b h1
                · simp at h1
                  omega
              case measure => simp [intOf]; omega
            · have c3a : (pc == 3) = false := by simpa using c3
              replace HS : Hid (niTo x (k + 1) = niTo x k) := Hid.mk_ (by rw [HS.out, HA.out]; have q := inB_not hin; have q3 : inB 1 3 pc = false := inB_no (by omega); rw [q3, k1a]; rfl)
              go_wp2_with (first | (go_at_call 111; refine (within_ct _ _ _ _).mono ?_; rintro e wq ⟨rfl, rfl⟩) | (have hz9 := hsz; clear hsz; refine wpList_store_new2 rfl 146 (.tmp 5) (.tmp 18) rfl cs.toArray rfl rfl hz9 (by rw [HS2.out]; rfl) hO ?_; clear hz9))
              go_roundw
              case rel => exact ⟨k + 1, by omega, by go_num, by rw [HS.out]; exact ho.alloc_ _, hf, ba.alloc _, hB.alloc hB.size _⟩
              case measure => simp [intOf]; omega
        · have k1a : (kd == 1) = false := by simpa using k1
          replace HS : Hid (niTo x (k + 1) = niTo x k) := Hid.mk_ (by rw [HS.out, HA.out]; rw [k1a]; rfl)
          go_wp2_with (first | (go_at_call 111; refine (within_ct _ _ _ _).mono ?_; rintro e wq ⟨rfl, rfl⟩) | (have hz9 := hsz; clear hsz; refine wpList_store_new2 rfl 146 (.tmp 5) (.tmp 18) rfl cs.toArray rfl rfl hz9 (by rw [HS2.out]; rfl) hO ?_; clear hz9))
          go_roundw
          case rel => exact ⟨k + 1, by omega, by go_num, by rw [HS.out]; exact ho.alloc_ _, hf, ba.alloc _, hB.alloc hB.size _⟩
          case measure => simp [intOf]; omega
      · have hlk : k = 3 := by omega
        subst hlk
        go_wp2_with fail
        refine (ascending_ok _ _ _ ho.rd' (by omega)).mono ?_
        rintro e w5 ⟨v', l', rfl, hr, hnd, hmem, hb⟩
        go_wp2_with fail
        go_ret
        exact ⟨_, l', rfl, hr, hnd, fun v => by rw [hmem, HM.out, HN.out], hB.trans (hb.mono hB.size)⟩
end Go.Proofs.YtkldapdpaldbgaaGreat
namespace Go.Proofs.YtkldapdpaldbgaaGreat
open Go.RowKit

def accAt (x : Base) (h : Int) : Bool := liveB x.Mem h && !Lim.inLimboB x.Limbo (h % 32)
def accB (x : Shelf) : Bool := shelfOkB x && (((namedS x).length : Int) == (tallyP x.Base).getD 4 0) && (namedS x).all (accAt x.Base)
theorem live_ok {m : Mem} {h : Int} (k : liveB m h = true) : handleOkB h = true := by
  unfold liveB at k
  simp only [Bool.and_eq_true] at k
  exact k.1.1

set_option maxRecDepth 100000 in
set_option maxHeartbeats 1000000 in
theorem owned1_impl (w : World) (H : HBase) (x : Base) (i : Int) (b : Nat) (hb : Box w b [.slice H.Mem.Heap.Bytes.a H.Mem.Heap.Bytes.len H.Mem.Heap.Bytes.cap, .slice H.Mem.Heap.Class.a H.Mem.Heap.Class.len H.Mem.Heap.Class.cap, .slice H.Mem.Lists.Global.a H.Mem.Lists.Global.len H.Mem.Lists.Global.cap, .slice H.Mem.Lists.Own.a H.Mem.Lists.Own.len H.Mem.Lists.Own.cap, .int .i64 x.Clock.Epoch, .slice H.Clock.Pins.a H.Clock.Pins.len H.Clock.Pins.cap, .slice H.Limbo.a H.Limbo.len H.Limbo.cap, .slice H.Haz.a H.Haz.len H.Haz.cap]) (h : RdBase w w.heap.size H x) (hsh : shapeB x.Mem.Heap = true) (hs : szLL x.Limbo ≤ 536870912) :
    Calls Tryz.prog 153 #[.int .i64 i, .pointer (some ⟨b, 0, none⟩)] w fun e w' => e = .returned (.bool (!accAt x i)) ∧ Below w.heap.size w w' := by
  have k0 := fun (W : World) (hW : Below w.heap.size w W) => isLive_impl W H.Mem x.Mem i (rdMem_up h.Mem hW) hsh
  have k1 := fun (W : World) (hW : Below w.heap.size w W) => Lim.InLimbo_impl W _ _ x.Limbo (i % 32) (rdLL_up h.Limbo hW) (by omega)
  have HV : Hid (accAt x i = (liveB x.Mem i && !Lim.inLimboB x.Limbo (i % 32))) := Hid.mk_ rfl
  have HO := Hid.mk_ (fun e : liveB x.Mem i = true => handleOk_bd (live_ok e))
  clear h
  generalize liveB x.Mem i = lv at k0 HV HO
  generalize Lim.inLimboB x.Limbo (i % 32) = il at k1 HV
  have q0 := hb.cell 0 _ rfl
  have q1 := hb.cell 1 _ rfl
  have q2 := hb.cell 2 _ rfl
  have q3 := hb.cell 3 _ rfl
  cases lv with
  | false =>
    go_enter Tryz.func153, Tryz.ntmps153
    go_wp2_with fail
    refine (k0 _ (Below.refl _ _)).mono ?_
    rintro e w1 ⟨rfl, hb1⟩
    go_wp2_with fail
    go_ret
    exact ⟨ret_bool (by rw [HV.out]; rfl), hb1⟩
  | true =>
    obtain ⟨a1, a2, _, _, a5, _⟩ := HO.out rfl
    go_enter Tryz.func153, Tryz.ntmps153
    go_wp2_with fail
    refine (k0 _ (Below.refl _ _)).mono ?_
    rintro e w1 ⟨rfl, hb1⟩
    replace hb := hb.below hb1
    clear q0 q1 q2 q3
    have q6 := hb.cell 6 _ rfl
    go_wp2_with fail
    refine (k1 _ hb1).mono ?_
    rintro e w2 ⟨rfl, hb2⟩
    go_wp2_with fail
    go_ret
    exact ⟨ret_bool (by rw [HV.out]; simp), hb1.trans (hb2.mono hb1.size)⟩
theorem tally_get (x : Base) : (tallyP x)[4]? = some ((tallyP x).getD 4 0) := by
  have := tally_len x
  simp [List.getD, this]
set_option maxRecDepth 100000 in
set_option maxHeartbeats 2000000 in
theorem owned_impl (w : World) (H : HBase) (x : Base) (v : Value) (l : List Int) (h : RdBase w w.heap.size H x) (hr : RdL FI w w.heap.size v l) (hsh : shapeB x.Mem.Heap = true) (hs : szLL x.Limbo ≤ 536870912) :
    Calls Tryz.prog 80 #[.agg #[.slice H.Mem.Heap.Bytes.a H.Mem.Heap.Bytes.len H.Mem.Heap.Bytes.cap, .slice H.Mem.Heap.Class.a H.Mem.Heap.Class.len H.Mem.Heap.Class.cap, .slice H.Mem.Lists.Global.a H.Mem.Lists.Global.len H.Mem.Lists.Global.cap, .slice H.Mem.Lists.Own.a H.Mem.Lists.Own.len H.Mem.Lists.Own.cap, .int .i64 x.Clock.Epoch, .slice H.Clock.Pins.a H.Clock.Pins.len H.Clock.Pins.cap, .slice H.Limbo.a H.Limbo.len H.Limbo.cap, .slice H.Haz.a H.Haz.len H.Haz.cap], v] w fun e w' => e = .returned (.bool (((l.length : Int) == (tallyP x).getD 4 0) && l.all (accAt x))) ∧ Below w.heap.size w w' := by
  obtain ⟨A, c, hv, _, q2, _⟩ := id hr
  subst hv
  have hlm : l.length ≤ 9223372036854775807 := by unfold maxLen at q2; omega
  clear q2
  have kT := fun (W : World) (hW : Below w.heap.size w W) => Tally_impl W H x (rdBase_up h hW) hs
  have HA := Hid.mk_ (all_not_any_ (accAt x) l)
  have B_a : Box (w.alloc (.cells #[.slice H.Mem.Heap.Bytes.a H.Mem.Heap.Bytes.len H.Mem.Heap.Bytes.cap, .slice H.Mem.Heap.Class.a H.Mem.Heap.Class.len H.Mem.Heap.Class.cap, .slice H.Mem.Lists.Global.a H.Mem.Lists.Global.len H.Mem.Lists.Global.cap, .slice H.Mem.Lists.Own.a H.Mem.Lists.Own.len H.Mem.Lists.Own.cap, .int .i64 x.Clock.Epoch, .slice H.Clock.Pins.a H.Clock.Pins.len H.Clock.Pins.cap, .slice H.Limbo.a H.Limbo.len H.Limbo.cap, .slice H.Haz.a H.Haz.len H.Haz.cap] 37)) (w.heap.size) [.slice H.Mem.Heap.Bytes.a H.Mem.Heap.Bytes.len H.Mem.Heap.Bytes.cap, .slice H.Mem.Heap.Class.a H.Mem.Heap.Class.len H.Mem.Heap.Class.cap, .slice H.Mem.Lists.Global.a H.Mem.Lists.Global.len H.Mem.Lists.Global.cap, .slice H.Mem.Lists.Own.a H.Mem.Lists.Own.len H.Mem.Lists.Own.cap, .int .i64 x.Clock.Epoch, .slice H.Clock.Pins.a H.Clock.Pins.len H.Clock.Pins.cap, .slice H.Limbo.a H.Limbo.len H.Limbo.cap, .slice H.Haz.a H.Haz.len H.Haz.cap] := by
    have hbx := Box.new w #[.slice H.Mem.Heap.Bytes.a H.Mem.Heap.Bytes.len H.Mem.Heap.Bytes.cap, .slice H.Mem.Heap.Class.a H.Mem.Heap.Class.len H.Mem.Heap.Class.cap, .slice H.Mem.Lists.Global.a H.Mem.Lists.Global.len H.Mem.Lists.Global.cap, .slice H.Mem.Lists.Own.a H.Mem.Lists.Own.len H.Mem.Lists.Own.cap, .int .i64 x.Clock.Epoch, .slice H.Clock.Pins.a H.Clock.Pins.len H.Clock.Pins.cap, .slice H.Limbo.a H.Limbo.len H.Limbo.cap, .slice H.Haz.a H.Haz.len H.Haz.cap] 37
    exact hbx
  have hB : Below w.heap.size w (w.alloc (.cells #[.slice H.Mem.Heap.Bytes.a H.Mem.Heap.Bytes.len H.Mem.Heap.Bytes.cap, .slice H.Mem.Heap.Class.a H.Mem.Heap.Class.len H.Mem.Heap.Class.cap, .slice H.Mem.Lists.Global.a H.Mem.Lists.Global.len H.Mem.Lists.Global.cap, .slice H.Mem.Lists.Own.a H.Mem.Lists.Own.len H.Mem.Lists.Own.cap, .int .i64 x.Clock.Epoch, .slice H.Clock.Pins.a H.Clock.Pins.len H.Clock.Pins.cap, .slice H.Limbo.a H.Limbo.len H.Limbo.cap, .slice H.Haz.a H.Haz.len H.Haz.cap] 37)) := by repeat (first | exact Below.refl _ _ | refine Below.alloc ?_ (by simp <;> omega) _ | refine below_grow_of ?_ (by simp <;> omega) _ _ | refine Below.drew ?_ | refine below_drewN ?_ _)
  go_enter Tryz.func80, Tryz.ntmps80
  go_wp2_with fail
  generalize hW0 : (w.alloc (.cells #[.slice H.Mem.Heap.Bytes.a H.Mem.Heap.Bytes.len H.Mem.Heap.Bytes.cap, .slice H.Mem.Heap.Class.a H.Mem.Heap.Class.len H.Mem.Heap.Class.cap, .slice H.Mem.Lists.Global.a H.Mem.Lists.Global.len H.Mem.Lists.Global.cap, .slice H.Mem.Lists.Own.a H.Mem.Lists.Own.len H.Mem.Lists.Own.cap, .int .i64 x.Clock.Epoch, .slice H.Clock.Pins.a H.Clock.Pins.len H.Clock.Pins.cap, .slice H.Limbo.a H.Limbo.len H.Limbo.cap, .slice H.Haz.a H.Haz.len H.Haz.cap] 37)) = w0 at B_a hB ⊢
  clear hW0
  have zz_a := B_a.lt
  have q_a_0 := B_a.cell 0 _ rfl
  have q_a_1 := B_a.cell 1 _ rfl
  have q_a_2 := B_a.cell 2 _ rfl
  have q_a_3 := B_a.cell 3 _ rfl
  have q_a_4 := B_a.cell 4 _ rfl
  have q_a_5 := B_a.cell 5 _ rfl
  have q_a_6 := B_a.cell 6 _ rfl
  have q_a_7 := B_a.cell 7 _ rfl
  have fr_a := B_a.fro
  have z_a := B_a.lt
  refine (kT _ hB).mono ?_
  rintro e w2 ⟨v2, rfl, ho, _, hb⟩
  replace B_a := B_a.below hb
  replace hB := hB.trans (hb.mono hB.size)
  clear hb kT q_a_0 q_a_1 q_a_2 q_a_3 q_a_4 q_a_5 q_a_6 q_a_7 fr_a z_a
  obtain ⟨g, off, cap', he, hg, hl1, hl2, hc⟩ := ho.rd'.at_ (tally_get x)
  subst he
  have p4 := hc 0 _ rfl
  simp only [FI, Nat.mul_one, Nat.add_zero] at p4
  rw [tally_len x] at hl1 ⊢
  clear hc ho
  generalize hT : (tallyP x).getD 4 0 = tv at *
  have HT := Hid.mk_ hT
  clear hT
  cases hq : ((l.length : Int) == tv) with
  | false =>
    go_wp2_with fail
    go_ret
    exact ⟨ret_bool (by rw [HT.out, hq]; rfl), hB⟩
  | true =>
    go_wp2_with fail
    refine (ContainsFuncInt_ct _ _ l (rd_up hr hB) 153 #[.pointer (some ⟨w.heap.size, 0, none⟩)] (fun v => !accAt x v) (fun _ _ => by kernel_rfl) (fun y V _ hV => owned1_impl V H x y w.heap.size (B_a.below hV) (rdBase_up h (hB.trans (hV.mono hB.size))) hsh hs)).mono ?_
    rintro e w3 ⟨rfl, hb3⟩
    go_wp2_with fail
    go_ret
    exact ⟨ret_bool (by rw [HT.out, hq, HA.out]; rfl), hB.trans (hb3.mono hB.size)⟩
end Go.Proofs.YtkldapdpaldbgaaGreat
namespace Go.Proofs.YtkldapdpaldbgaaGreat
open Go.RowKit

theorem held_upA {B g0 : Nat} {v0 v1 v2 v3 v4 v5 v6 v7 v8 v9 v10 v11 v12 : Value} {W w w' : World} (hb : Below w.heap.size w w') (h : w.cell? ⟨g0, 0, none⟩ = some v0 ∧ w.cell? ⟨g0, 1, none⟩ = some v1 ∧ w.cell? ⟨g0, 2, none⟩ = some v2 ∧ w.cell? ⟨g0, 3, none⟩ = some v3 ∧ w.cell? ⟨g0, 4, none⟩ = some v4 ∧ w.cell? ⟨g0, 5, none⟩ = some v5 ∧ w.cell? ⟨g0, 6, none⟩ = some v6 ∧ w.cell? ⟨g0, 7, none⟩ = some v7 ∧ w.cell? ⟨g0, 8, none⟩ = some v8 ∧ w.cell? ⟨g0, 9, none⟩ = some v9 ∧ w.cell? ⟨g0, 10, none⟩ = some v10 ∧ w.cell? ⟨g0, 11, none⟩ = some v11 ∧ w.cell? ⟨g0, 12, none⟩ = some v12 ∧ g0 < w.heap.size ∧ Below B W w) (hB : B ≤ g0) :
    w'.cell? ⟨g0, 0, none⟩ = some v0 ∧ w'.cell? ⟨g0, 1, none⟩ = some v1 ∧ w'.cell? ⟨g0, 2, none⟩ = some v2 ∧ w'.cell? ⟨g0, 3, none⟩ = some v3 ∧ w'.cell? ⟨g0, 4, none⟩ = some v4 ∧ w'.cell? ⟨g0, 5, none⟩ = some v5 ∧ w'.cell? ⟨g0, 6, none⟩ = some v6 ∧ w'.cell? ⟨g0, 7, none⟩ = some v7 ∧ w'.cell? ⟨g0, 8, none⟩ = some v8 ∧ w'.cell? ⟨g0, 9, none⟩ = some v9 ∧ w'.cell? ⟨g0, 10, none⟩ = some v10 ∧ w'.cell? ⟨g0, 11, none⟩ = some v11 ∧ w'.cell? ⟨g0, 12, none⟩ = some v12 ∧ g0 < w'.heap.size ∧ Below B W w' := by
  obtain ⟨a0, a1, a2, a3, a4, a5, a6, a7, a8, a9, a10, a11, a12, m, f⟩ := h
  exact ⟨cell_up hb m a0, cell_up hb m a1, cell_up hb m a2, cell_up hb m a3, cell_up hb m a4, cell_up hb m a5, cell_up hb m a6, cell_up hb m a7, cell_up hb m a8, cell_up hb m a9, cell_up hb m a10, cell_up hb m a11, cell_up hb m a12, Nat.lt_of_lt_of_le m hb.size, f.trans (hb.mono (by omega))⟩

theorem acc_perm {l l' : List Int} {T : Int} {p : Int → Bool} (hn : l'.Nodup) (hn2 : l.Nodup) (hm : ∀ v, v ∈ l' ↔ v ∈ l) : (((l'.length : Int) == T) && l'.all p) = (((l.length : Int) == T) && l.all p) := by
  have hp : l'.Perm l := (List.perm_ext_iff_of_nodup hn hn2).2 hm
  rw [hp.length_eq]
  congr 1
  rw [Bool.eq_iff_iff, List.all_eq_true, List.all_eq_true]
  exact ⟨fun a v hv => a v ((hm v).2 hv), fun a v hv => a v ((hm v).1 hv)⟩
theorem named_nodup (x : Shelf) : (namedS x).Nodup := by
  unfold namedS
  split
  · exact njTo_nodup x 3
  · exact List.nodup_nil
set_option maxRecDepth 100000 in
set_option maxHeartbeats 8000000 in
theorem Accounted_impl (w : World) (H : HShelf) (x : Shelf) (h : RdShelf w w.heap.size H x) (hs : szLL x.Base.Limbo ≤ 536870912) :
    Calls Tryz.prog 26 #[.agg #[.slice H.Base.Mem.Heap.Bytes.a H.Base.Mem.Heap.Bytes.len H.Base.Mem.Heap.Bytes.cap, .slice H.Base.Mem.Heap.Class.a H.Base.Mem.Heap.Class.len H.Base.Mem.Heap.Class.cap, .slice H.Base.Mem.Lists.Global.a H.Base.Mem.Lists.Global.len H.Base.Mem.Lists.Global.cap, .slice H.Base.Mem.Lists.Own.a H.Base.Mem.Lists.Own.len H.Base.Mem.Lists.Own.cap, .int .i64 x.Base.Clock.Epoch, .slice H.Base.Clock.Pins.a H.Base.Clock.Pins.len H.Base.Clock.Pins.cap, .slice H.Base.Limbo.a H.Base.Limbo.len H.Base.Limbo.cap, .slice H.Base.Haz.a H.Base.Haz.len H.Base.Haz.cap, .slice H.Cells.a H.Cells.len H.Cells.cap, .slice H.Jobs.a H.Jobs.len H.Jobs.cap, .slice H.Todo.a H.Todo.len H.Todo.cap, .slice H.Log.a H.Log.len H.Log.cap, .int .i64 x.Serial]] w fun e w' => e = .returned (.bool (accB x)) ∧ Below w.heap.size w w' := by
  have k0 := fun (W : World) (hW : Below w.heap.size w W) => ShelfOk_impl W H x (rdShelf_up h hW) hs
  have k1 := fun (W : World) (hW : Below w.heap.size w W) => Named_impl W H x (rdShelf_up h hW) hs
  have k2' := fun (hsh : shapeB x.Base.Mem.Heap = true) (W : World) (v : Value) (l : List Int) (hr : RdL FI W W.heap.size v l) (hW : Below w.heap.size w W) => owned_impl W H.Base x.Base v l (rdBase_up h.Base hW) hr hsh hs
  have HV : Hid (accB x = (shelfOkB x && (((namedS x).length : Int) == (tallyP x.Base).getD 4 0) && (namedS x).all (accAt x.Base))) := Hid.mk_ rfl
  have HSH := Hid.mk_ (fun e : shelfOkB x = true => shelf_shape e)
  have HN := Hid.mk_ (named_nodup x)
  clear h
  generalize shelfOkB x = c0 at k0 HV HSH
  cases c0 with
  | false =>
    replace HV : Hid (accB x = false) := Hid.mk_ HV.out
    clear k1 k2' HSH HN
    have B_a : Box (w.alloc (.cells #[.slice H.Base.Mem.Heap.Bytes.a H.Base.Mem.Heap.Bytes.len H.Base.Mem.Heap.Bytes.cap, .slice H.Base.Mem.Heap.Class.a H.Base.Mem.Heap.Class.len H.Base.Mem.Heap.Class.cap, .slice H.Base.Mem.Lists.Global.a H.Base.Mem.Lists.Global.len H.Base.Mem.Lists.Global.cap, .slice H.Base.Mem.Lists.Own.a H.Base.Mem.Lists.Own.len H.Base.Mem.Lists.Own.cap, .int .i64 x.Base.Clock.Epoch, .slice H.Base.Clock.Pins.a H.Base.Clock.Pins.len H.Base.Clock.Pins.cap, .slice H.Base.Limbo.a H.Base.Limbo.len H.Base.Limbo.cap, .slice H.Base.Haz.a H.Base.Haz.len H.Base.Haz.cap, .slice H.Cells.a H.Cells.len H.Cells.cap, .slice H.Jobs.a H.Jobs.len H.Jobs.cap, .slice H.Todo.a H.Todo.len H.Todo.cap, .slice H.Log.a H.Log.len H.Log.cap, .int .i64 x.Serial] 69)) (w.heap.size) [.slice H.Base.Mem.Heap.Bytes.a H.Base.Mem.Heap.Bytes.len H.Base.Mem.Heap.Bytes.cap, .slice H.Base.Mem.Heap.Class.a H.Base.Mem.Heap.Class.len H.Base.Mem.Heap.Class.cap, .slice H.Base.Mem.Lists.Global.a H.Base.Mem.Lists.Global.len H.Base.Mem.Lists.Global.cap, .slice H.Base.Mem.Lists.Own.a H.Base.Mem.Lists.Own.len H.Base.Mem.Lists.Own.cap, .int .i64 x.Base.Clock.Epoch, .slice H.Base.Clock.Pins.a H.Base.Clock.Pins.len H.Base.Clock.Pins.cap, .slice H.Base.Limbo.a H.Base.Limbo.len H.Base.Limbo.cap, .slice H.Base.Haz.a H.Base.Haz.len H.Base.Haz.cap, .slice H.Cells.a H.Cells.len H.Cells.cap, .slice H.Jobs.a H.Jobs.len H.Jobs.cap, .slice H.Todo.a H.Todo.len H.Todo.cap, .slice H.Log.a H.Log.len H.Log.cap, .int .i64 x.Serial] := by
      have hbx := Box.new w #[.slice H.Base.Mem.Heap.Bytes.a H.Base.Mem.Heap.Bytes.len H.Base.Mem.Heap.Bytes.cap, .slice H.Base.Mem.Heap.Class.a H.Base.Mem.Heap.Class.len H.Base.Mem.Heap.Class.cap, .slice H.Base.Mem.Lists.Global.a H.Base.Mem.Lists.Global.len H.Base.Mem.Lists.Global.cap, .slice H.Base.Mem.Lists.Own.a H.Base.Mem.Lists.Own.len H.Base.Mem.Lists.Own.cap, .int .i64 x.Base.Clock.Epoch, .slice H.Base.Clock.Pins.a H.Base.Clock.Pins.len H.Base.Clock.Pins.cap, .slice H.Base.Limbo.a H.Base.Limbo.len H.Base.Limbo.cap, .slice H.Base.Haz.a H.Base.Haz.len H.Base.Haz.cap, .slice H.Cells.a H.Cells.len H.Cells.cap, .slice H.Jobs.a H.Jobs.len H.Jobs.cap, .slice H.Todo.a H.Todo.len H.Todo.cap, .slice H.Log.a H.Log.len H.Log.cap, .int .i64 x.Serial] 69
      exact hbx
    have hB : Below w.heap.size w (w.alloc (.cells #[.slice H.Base.Mem.Heap.Bytes.a H.Base.Mem.Heap.Bytes.len H.Base.Mem.Heap.Bytes.cap, .slice H.Base.Mem.Heap.Class.a H.Base.Mem.Heap.Class.len H.Base.Mem.Heap.Class.cap, .slice H.Base.Mem.Lists.Global.a H.Base.Mem.Lists.Global.len H.Base.Mem.Lists.Global.cap, .slice H.Base.Mem.Lists.Own.a H.Base.Mem.Lists.Own.len H.Base.Mem.Lists.Own.cap, .int .i64 x.Base.Clock.Epoch, .slice H.Base.Clock.Pins.a H.Base.Clock.Pins.len H.Base.Clock.Pins.cap, .slice H.Base.Limbo.a H.Base.Limbo.len H.Base.Limbo.cap, .slice H.Base.Haz.a H.Base.Haz.len H.Base.Haz.cap, .slice H.Cells.a H.Cells.len H.Cells.cap, .slice H.Jobs.a H.Jobs.len H.Jobs.cap, .slice H.Todo.a H.Todo.len H.Todo.cap, .slice H.Log.a H.Log.len H.Log.cap, .int .i64 x.Serial] 69)) := by repeat (first | exact Below.refl _ _ | refine Below.alloc ?_ (by simp <;> omega) _ | refine below_grow_of ?_ (by simp <;> omega) _ _ | refine Below.drew ?_ | refine below_drewN ?_ _)
    go_enter Tryz.func26, Tryz.ntmps26
    go_upto_region 1 with (fail)
    generalize hW0 : (w.alloc (.cells #[.slice H.Base.Mem.Heap.Bytes.a H.Base.Mem.Heap.Bytes.len H.Base.Mem.Heap.Bytes.cap, .slice H.Base.Mem.Heap.Class.a H.Base.Mem.Heap.Class.len H.Base.Mem.Heap.Class.cap, .slice H.Base.Mem.Lists.Global.a H.Base.Mem.Lists.Global.len H.Base.Mem.Lists.Global.cap, .slice H.Base.Mem.Lists.Own.a H.Base.Mem.Lists.Own.len H.Base.Mem.Lists.Own.cap, .int .i64 x.Base.Clock.Epoch, .slice H.Base.Clock.Pins.a H.Base.Clock.Pins.len H.Base.Clock.Pins.cap, .slice H.Base.Limbo.a H.Base.Limbo.len H.Base.Limbo.cap, .slice H.Base.Haz.a H.Base.Haz.len H.Base.Haz.cap, .slice H.Cells.a H.Cells.len H.Cells.cap, .slice H.Jobs.a H.Jobs.len H.Jobs.cap, .slice H.Todo.a H.Todo.len H.Todo.cap, .slice H.Log.a H.Log.len H.Log.cap, .int .i64 x.Serial] 69)) = w0 at B_a hB ⊢
    clear hW0
    have zz_a := B_a.lt
    have q_a_0 := B_a.cell 0 _ rfl
    have q_a_1 := B_a.cell 1 _ rfl
    have q_a_2 := B_a.cell 2 _ rfl
    have q_a_3 := B_a.cell 3 _ rfl
    have q_a_4 := B_a.cell 4 _ rfl
    have q_a_5 := B_a.cell 5 _ rfl
    have q_a_6 := B_a.cell 6 _ rfl
    have q_a_7 := B_a.cell 7 _ rfl
    have q_a_8 := B_a.cell 8 _ rfl
    have q_a_9 := B_a.cell 9 _ rfl
    have q_a_10 := B_a.cell 10 _ rfl
    have q_a_11 := B_a.cell 11 _ rfl
    have q_a_12 := B_a.cell 12 _ rfl
    have fr_a := B_a.fro
    have z_a := B_a.lt
    have zw := B_a.lt
    refine wp_region_held_drew (S := (fun wx => wx.cell? ⟨w.heap.size, 0, none⟩ = some (.slice H.Base.Mem.Heap.Bytes.a H.Base.Mem.Heap.Bytes.len H.Base.Mem.Heap.Bytes.cap) ∧ wx.cell? ⟨w.heap.size, 1, none⟩ = some (.slice H.Base.Mem.Heap.Class.a H.Base.Mem.Heap.Class.len H.Base.Mem.Heap.Class.cap) ∧ wx.cell? ⟨w.heap.size, 2, none⟩ = some (.slice H.Base.Mem.Lists.Global.a H.Base.Mem.Lists.Global.len H.Base.Mem.Lists.Global.cap) ∧ wx.cell? ⟨w.heap.size, 3, none⟩ = some (.slice H.Base.Mem.Lists.Own.a H.Base.Mem.Lists.Own.len H.Base.Mem.Lists.Own.cap) ∧ wx.cell? ⟨w.heap.size, 4, none⟩ = some (.int .i64 x.Base.Clock.Epoch) ∧ wx.cell? ⟨w.heap.size, 5, none⟩ = some (.slice H.Base.Clock.Pins.a H.Base.Clock.Pins.len H.Base.Clock.Pins.cap) ∧ wx.cell? ⟨w.heap.size, 6, none⟩ = some (.slice H.Base.Limbo.a H.Base.Limbo.len H.Base.Limbo.cap) ∧ wx.cell? ⟨w.heap.size, 7, none⟩ = some (.slice H.Base.Haz.a H.Base.Haz.len H.Base.Haz.cap) ∧ wx.cell? ⟨w.heap.size, 8, none⟩ = some (.slice H.Cells.a H.Cells.len H.Cells.cap) ∧ wx.cell? ⟨w.heap.size, 9, none⟩ = some (.slice H.Jobs.a H.Jobs.len H.Jobs.cap) ∧ wx.cell? ⟨w.heap.size, 10, none⟩ = some (.slice H.Todo.a H.Todo.len H.Todo.cap) ∧ wx.cell? ⟨w.heap.size, 11, none⟩ = some (.slice H.Log.a H.Log.len H.Log.cap) ∧ wx.cell? ⟨w.heap.size, 12, none⟩ = some (.int .i64 x.Serial) ∧ w.heap.size < wx.heap.size ∧ Below w.heap.size w wx)) (by kernel_rfl) ?_ (fun hHeld => ?_)
    · (try dsimp only)
      (first | (go_keep; done) | exact held_upA (by assumption) (by assumption) (Nat.le_refl _) | exact ⟨by assumption, by assumption, by assumption, by assumption, by assumption, by assumption, by assumption, by assumption, by assumption, by assumption, by assumption, by assumption, by assumption, by assumption, Below.drew (by assumption)⟩)
    refine wpAnyH_take (i := 0) (v := ?_) rfl (by kernel_rfl) (by kernel_rfl) (by kernel_rfl) (fun _ _ _ h => h) (Or.inl ⟨by kernel_rfl, ?_⟩) (by assumption) ?_
    rotate_left
    · (intro wz hSw; (try dsimp only at hSw); go_simp; (try with_reducible rfl))
    try simp only [List.getElem_toArray, List.getElem_cons_zero, Act.put, List.setIfInBounds_toArray, List.set_cons_zero, List.set_cons_succ]
    refine wpAnyH_ready (rs := [1]) (by kernel_rfl) (by simp) ?_
    refine AllReadyH.cons rfl (fun K hK => ?_) AllReadyH.nil
    go_simp
    (go_at_call 43; refine (k0 _ (by go_split_ands; assumption)).mono ?_; rintro e w1 ⟨rfl, hb1⟩)
    (try go_wp2_with fail)
    refine hK.out _ _ ?_ (fun hHeld => ?_)
    · (try dsimp only)
      (first | (go_keep; done) | exact held_upA (by assumption) (by assumption) (Nat.le_refl _) | exact ⟨by assumption, by assumption, by assumption, by assumption, by assumption, by assumption, by assumption, by assumption, by assumption, by assumption, by assumption, by assumption, by assumption, by assumption, Below.drew (by assumption)⟩)
    clear hK K
    try simp only [List.getElem_toArray, List.getElem_cons_succ, List.getElem_cons_zero, Act.put, List.setIfInBounds_toArray, List.set_cons_zero, List.set_cons_succ]
    refine wpAnyH_take (i := 2) (v := ?_) rfl (by kernel_rfl) (by kernel_rfl) (by kernel_rfl) (fun _ _ _ h => h) (Or.inl ⟨by kernel_rfl, ?_⟩) (by assumption) ?_
    rotate_left
    · (intro wz hSw; (try dsimp only at hSw); go_simp; (try with_reducible rfl))
    try simp only [List.getElem_toArray, List.getElem_cons_succ, List.getElem_cons_zero, Act.put, List.setIfInBounds_toArray, List.set_cons_zero, List.set_cons_succ]
    refine wpAnyH_take (i := 3) (v := undef) rfl (by kernel_rfl) (by kernel_rfl) (by kernel_rfl) (fun _ _ _ h => h) (Or.inr ⟨by kernel_rfl, rfl⟩) (by assumption) ?_
    try simp only [List.getElem_toArray, List.getElem_cons_succ, List.getElem_cons_zero, Act.put, List.setIfInBounds_toArray, List.set_cons_zero, List.set_cons_succ]
    refine wpAnyH_take (i := 4) (v := undef) rfl (by kernel_rfl) (by kernel_rfl) (by kernel_rfl) (fun _ _ _ h => h) (Or.inr ⟨by kernel_rfl, rfl⟩) (by assumption) ?_
    try simp only [List.getElem_toArray, List.getElem_cons_succ, List.getElem_cons_zero, Act.put, List.setIfInBounds_toArray, List.set_cons_zero, List.set_cons_succ]
    refine wpAnyH_take (i := 5) (v := undef) rfl (by kernel_rfl) (by kernel_rfl) (by kernel_rfl) (fun _ _ _ h => h) (Or.inr ⟨by kernel_rfl, rfl⟩) (by assumption) ?_
    try simp only [List.getElem_toArray, List.getElem_cons_succ, List.getElem_cons_zero, Act.put, List.setIfInBounds_toArray, List.set_cons_zero, List.set_cons_succ]
    refine wpAnyH_take (i := 6) (v := undef) rfl (by kernel_rfl) (by kernel_rfl) (by kernel_rfl) (fun _ _ _ h => h) (Or.inr ⟨by kernel_rfl, rfl⟩) (by assumption) ?_
    try simp only [List.getElem_toArray, List.getElem_cons_succ, List.getElem_cons_zero, Act.put, List.setIfInBounds_toArray, List.set_cons_zero, List.set_cons_succ]
    refine wpAnyH_take (i := 7) (v := undef) rfl (by kernel_rfl) (by kernel_rfl) (by kernel_rfl) (fun _ _ _ h => h) (Or.inr ⟨by kernel_rfl, rfl⟩) (by assumption) ?_
    try simp only [List.getElem_toArray, List.getElem_cons_succ, List.getElem_cons_zero, Act.put, List.setIfInBounds_toArray, List.set_cons_zero, List.set_cons_succ]
    refine wpAnyH_take (i := 8) (v := ?_) rfl (by kernel_rfl) (by kernel_rfl) (by kernel_rfl) (fun _ _ _ h => h) (Or.inl ⟨by kernel_rfl, ?_⟩) (by assumption) ?_
    rotate_left
    · (intro wz hSw; (try dsimp only at hSw); go_simp; (try with_reducible rfl))
    try simp only [List.getElem_toArray, List.getElem_cons_succ, List.getElem_cons_zero, Act.put, List.setIfInBounds_toArray, List.set_cons_zero, List.set_cons_succ]
    refine wpAnyH_take (i := 9) (v := ?_) rfl (by kernel_rfl) (by kernel_rfl) (by kernel_rfl) (fun _ _ _ h => h) (Or.inl ⟨by kernel_rfl, ?_⟩) (by assumption) ?_
    rotate_left
    · (intro wz hSw; (try dsimp only at hSw); go_simp; (try with_reducible rfl))
    try simp only [List.getElem_toArray, List.getElem_cons_succ, List.getElem_cons_zero, Act.put, List.setIfInBounds_toArray, List.set_cons_zero, List.set_cons_succ]
    refine wpAnyH_done (by kernel_rfl) ?_ _
    go_wp2_with fail
    go_ret
    exact ⟨ret_bool HV.out.symm, by first | assumption | (go_split_ands; assumption)⟩
  | true =>
    have k2 := k2' (HSH.out rfl)
    clear k2' HSH
    replace HV : Hid (accB x = ((((namedS x).length : Int) == (tallyP x.Base).getD 4 0) && (namedS x).all (accAt x.Base))) := Hid.mk_ (HV.out.trans (by rw [Bool.true_and]))
    have B_a : Box (w.alloc (.cells #[.slice H.Base.Mem.Heap.Bytes.a H.Base.Mem.Heap.Bytes.len H.Base.Mem.Heap.Bytes.cap, .slice H.Base.Mem.Heap.Class.a H.Base.Mem.Heap.Class.len H.Base.Mem.Heap.Class.cap, .slice H.Base.Mem.Lists.Global.a H.Base.Mem.Lists.Global.len H.Base.Mem.Lists.Global.cap, .slice H.Base.Mem.Lists.Own.a H.Base.Mem.Lists.Own.len H.Base.Mem.Lists.Own.cap, .int .i64 x.Base.Clock.Epoch, .slice H.Base.Clock.Pins.a H.Base.Clock.Pins.len H.Base.Clock.Pins.cap, .slice H.Base.Limbo.a H.Base.Limbo.len H.Base.Limbo.cap, .slice H.Base.Haz.a H.Base.Haz.len H.Base.Haz.cap, .slice H.Cells.a H.Cells.len H.Cells.cap, .slice H.Jobs.a H.Jobs.len H.Jobs.cap, .slice H.Todo.a H.Todo.len H.Todo.cap, .slice H.Log.a H.Log.len H.Log.cap, .int .i64 x.Serial] 69)) (w.heap.size) [.slice H.Base.Mem.Heap.Bytes.a H.Base.Mem.Heap.Bytes.len H.Base.Mem.Heap.Bytes.cap, .slice H.Base.Mem.Heap.Class.a H.Base.Mem.Heap.Class.len H.Base.Mem.Heap.Class.cap, .slice H.Base.Mem.Lists.Global.a H.Base.Mem.Lists.Global.len H.Base.Mem.Lists.Global.cap, .slice H.Base.Mem.Lists.Own.a H.Base.Mem.Lists.Own.len H.Base.Mem.Lists.Own.cap, .int .i64 x.Base.Clock.Epoch, .slice H.Base.Clock.Pins.a H.Base.Clock.Pins.len H.Base.Clock.Pins.cap, .slice H.Base.Limbo.a H.Base.Limbo.len H.Base.Limbo.cap, .slice H.Base.Haz.a H.Base.Haz.len H.Base.Haz.cap, .slice H.Cells.a H.Cells.len H.Cells.cap, .slice H.Jobs.a H.Jobs.len H.Jobs.cap, .slice H.Todo.a H.Todo.len H.Todo.cap, .slice H.Log.a H.Log.len H.Log.cap, .int .i64 x.Serial] := by
      have hbx := Box.new w #[.slice H.Base.Mem.Heap.Bytes.a H.Base.Mem.Heap.Bytes.len H.Base.Mem.Heap.Bytes.cap, .slice H.Base.Mem.Heap.Class.a H.Base.Mem.Heap.Class.len H.Base.Mem.Heap.Class.cap, .slice H.Base.Mem.Lists.Global.a H.Base.Mem.Lists.Global.len H.Base.Mem.Lists.Global.cap, .slice H.Base.Mem.Lists.Own.a H.Base.Mem.Lists.Own.len H.Base.Mem.Lists.Own.cap, .int .i64 x.Base.Clock.Epoch, .slice H.Base.Clock.Pins.a H.Base.Clock.Pins.len H.Base.Clock.Pins.cap, .slice H.Base.Limbo.a H.Base.Limbo.len H.Base.Limbo.cap, .slice H.Base.Haz.a H.Base.Haz.len H.Base.Haz.cap, .slice H.Cells.a H.Cells.len H.Cells.cap, .slice H.Jobs.a H.Jobs.len H.Jobs.cap, .slice H.Todo.a H.Todo.len H.Todo.cap, .slice H.Log.a H.Log.len H.Log.cap, .int .i64 x.Serial] 69
      exact hbx
    have hB : Below w.heap.size w (w.alloc (.cells #[.slice H.Base.Mem.Heap.Bytes.a H.Base.Mem.Heap.Bytes.len H.Base.Mem.Heap.Bytes.cap, .slice H.Base.Mem.Heap.Class.a H.Base.Mem.Heap.Class.len H.Base.Mem.Heap.Class.cap, .slice H.Base.Mem.Lists.Global.a H.Base.Mem.Lists.Global.len H.Base.Mem.Lists.Global.cap, .slice H.Base.Mem.Lists.Own.a H.Base.Mem.Lists.Own.len H.Base.Mem.Lists.Own.cap, .int .i64 x.Base.Clock.Epoch, .slice H.Base.Clock.Pins.a H.Base.Clock.Pins.len H.Base.Clock.Pins.cap, .slice H.Base.Limbo.a H.Base.Limbo.len H.Base.Limbo.cap, .slice H.Base.Haz.a H.Base.Haz.len H.Base.Haz.cap, .slice H.Cells.a H.Cells.len H.Cells.cap, .slice H.Jobs.a H.Jobs.len H.Jobs.cap, .slice H.Todo.a H.Todo.len H.Todo.cap, .slice H.Log.a H.Log.len H.Log.cap, .int .i64 x.Serial] 69)) := by repeat (first | exact Below.refl _ _ | refine Below.alloc ?_ (by simp <;> omega) _ | refine below_grow_of ?_ (by simp <;> omega) _ _ | refine Below.drew ?_ | refine below_drewN ?_ _)
    go_enter Tryz.func26, Tryz.ntmps26
    go_upto_region 1 with (fail)
    generalize hW0 : (w.alloc (.cells #[.slice H.Base.Mem.Heap.Bytes.a H.Base.Mem.Heap.Bytes.len H.Base.Mem.Heap.Bytes.cap, .slice H.Base.Mem.Heap.Class.a H.Base.Mem.Heap.Class.len H.Base.Mem.Heap.Class.cap, .slice H.Base.Mem.Lists.Global.a H.Base.Mem.Lists.Global.len H.Base.Mem.Lists.Global.cap, .slice H.Base.Mem.Lists.Own.a H.Base.Mem.Lists.Own.len H.Base.Mem.Lists.Own.cap, .int .i64 x.Base.Clock.Epoch, .slice H.Base.Clock.Pins.a H.Base.Clock.Pins.len H.Base.Clock.Pins.cap, .slice H.Base.Limbo.a H.Base.Limbo.len H.Base.Limbo.cap, .slice H.Base.Haz.a H.Base.Haz.len H.Base.Haz.cap, .slice H.Cells.a H.Cells.len H.Cells.cap, .slice H.Jobs.a H.Jobs.len H.Jobs.cap, .slice H.Todo.a H.Todo.len H.Todo.cap, .slice H.Log.a H.Log.len H.Log.cap, .int .i64 x.Serial] 69)) = w0 at B_a hB ⊢
    clear hW0
    have zz_a := B_a.lt
    have q_a_0 := B_a.cell 0 _ rfl
    have q_a_1 := B_a.cell 1 _ rfl
    have q_a_2 := B_a.cell 2 _ rfl
    have q_a_3 := B_a.cell 3 _ rfl
    have q_a_4 := B_a.cell 4 _ rfl
    have q_a_5 := B_a.cell 5 _ rfl
    have q_a_6 := B_a.cell 6 _ rfl
    have q_a_7 := B_a.cell 7 _ rfl
    have q_a_8 := B_a.cell 8 _ rfl
    have q_a_9 := B_a.cell 9 _ rfl
    have q_a_10 := B_a.cell 10 _ rfl
    have q_a_11 := B_a.cell 11 _ rfl
    have q_a_12 := B_a.cell 12 _ rfl
    have fr_a := B_a.fro
    have z_a := B_a.lt
    have zw := B_a.lt
    refine wp_region_held_drew (S := (fun wx => wx.cell? ⟨w.heap.size, 0, none⟩ = some (.slice H.Base.Mem.Heap.Bytes.a H.Base.Mem.Heap.Bytes.len H.Base.Mem.Heap.Bytes.cap) ∧ wx.cell? ⟨w.heap.size, 1, none⟩ = some (.slice H.Base.Mem.Heap.Class.a H.Base.Mem.Heap.Class.len H.Base.Mem.Heap.Class.cap) ∧ wx.cell? ⟨w.heap.size, 2, none⟩ = some (.slice H.Base.Mem.Lists.Global.a H.Base.Mem.Lists.Global.len H.Base.Mem.Lists.Global.cap) ∧ wx.cell? ⟨w.heap.size, 3, none⟩ = some (.slice H.Base.Mem.Lists.Own.a H.Base.Mem.Lists.Own.len H.Base.Mem.Lists.Own.cap) ∧ wx.cell? ⟨w.heap.size, 4, none⟩ = some (.int .i64 x.Base.Clock.Epoch) ∧ wx.cell? ⟨w.heap.size, 5, none⟩ = some (.slice H.Base.Clock.Pins.a H.Base.Clock.Pins.len H.Base.Clock.Pins.cap) ∧ wx.cell? ⟨w.heap.size, 6, none⟩ = some (.slice H.Base.Limbo.a H.Base.Limbo.len H.Base.Limbo.cap) ∧ wx.cell? ⟨w.heap.size, 7, none⟩ = some (.slice H.Base.Haz.a H.Base.Haz.len H.Base.Haz.cap) ∧ wx.cell? ⟨w.heap.size, 8, none⟩ = some (.slice H.Cells.a H.Cells.len H.Cells.cap) ∧ wx.cell? ⟨w.heap.size, 9, none⟩ = some (.slice H.Jobs.a H.Jobs.len H.Jobs.cap) ∧ wx.cell? ⟨w.heap.size, 10, none⟩ = some (.slice H.Todo.a H.Todo.len H.Todo.cap) ∧ wx.cell? ⟨w.heap.size, 11, none⟩ = some (.slice H.Log.a H.Log.len H.Log.cap) ∧ wx.cell? ⟨w.heap.size, 12, none⟩ = some (.int .i64 x.Serial) ∧ w.heap.size < wx.heap.size ∧ Below w.heap.size w wx)) (by kernel_rfl) ?_ (fun hHeld => ?_)
    · (try dsimp only)
      (first | (go_keep; done) | exact held_upA (by assumption) (by assumption) (Nat.le_refl _) | exact ⟨by assumption, by assumption, by assumption, by assumption, by assumption, by assumption, by assumption, by assumption, by assumption, by assumption, by assumption, by assumption, by assumption, by assumption, Below.drew (by assumption)⟩)
    refine wpAnyH_take (i := 0) (v := ?_) rfl (by kernel_rfl) (by kernel_rfl) (by kernel_rfl) (fun _ _ _ h => h) (Or.inl ⟨by kernel_rfl, ?_⟩) (by assumption) ?_
    rotate_left
    · (intro wz hSw; (try dsimp only at hSw); go_simp; (try with_reducible rfl))
    try simp only [List.getElem_toArray, List.getElem_cons_zero, Act.put, List.setIfInBounds_toArray, List.set_cons_zero, List.set_cons_succ]
    refine wpAnyH_ready (rs := [1]) (by kernel_rfl) (by simp) ?_
    refine AllReadyH.cons rfl (fun K hK => ?_) AllReadyH.nil
    go_simp
    (go_at_call 43; refine (k0 _ (by go_split_ands; assumption)).mono ?_; rintro e w1 ⟨rfl, hb1⟩)
    (try go_wp2_with fail)
    refine hK.out _ _ ?_ (fun hHeld => ?_)
    · (try dsimp only)
      (first | (go_keep; done) | exact held_upA (by assumption) (by assumption) (Nat.le_refl _) | exact ⟨by assumption, by assumption, by assumption, by assumption, by assumption, by assumption, by assumption, by assumption, by assumption, by assumption, by assumption, by assumption, by assumption, by assumption, Below.drew (by assumption)⟩)
    clear hK K
    try simp only [List.getElem_toArray, List.getElem_cons_succ, List.getElem_cons_zero, Act.put, List.setIfInBounds_toArray, List.set_cons_zero, List.set_cons_succ]
    refine wpAnyH_take (i := 2) (v := ?_) rfl (by kernel_rfl) (by kernel_rfl) (by kernel_rfl) (fun _ _ _ h => h) (Or.inl ⟨by kernel_rfl, ?_⟩) (by assumption) ?_
    rotate_left
    · (intro wz hSw; (try dsimp only at hSw); go_simp; (try with_reducible rfl))
    try simp only [List.getElem_toArray, List.getElem_cons_succ, List.getElem_cons_zero, Act.put, List.setIfInBounds_toArray, List.set_cons_zero, List.set_cons_succ]
    refine wpAnyH_take (i := 3) (v := ?_) rfl (by kernel_rfl) (by kernel_rfl) (by kernel_rfl) (fun _ _ _ h => h) (Or.inl ⟨by kernel_rfl, ?_⟩) (by assumption) ?_
    rotate_left
    · (intro wz hSw; (try dsimp only at hSw); go_simp; (try with_reducible rfl))
    try simp only [List.getElem_toArray, List.getElem_cons_succ, List.getElem_cons_zero, Act.put, List.setIfInBounds_toArray, List.set_cons_zero, List.set_cons_succ]
    refine wpAnyH_take (i := 4) (v := ?_) rfl (by kernel_rfl) (by kernel_rfl) (by kernel_rfl) (fun _ _ _ h => h) (Or.inl ⟨by kernel_rfl, ?_⟩) (by assumption) ?_
    rotate_left
    · (intro wz hSw; (try dsimp only at hSw); go_simp; (try with_reducible rfl))
    try simp only [List.getElem_toArray, List.getElem_cons_succ, List.getElem_cons_zero, Act.put, List.setIfInBounds_toArray, List.set_cons_zero, List.set_cons_succ]
    refine wpAnyH_take (i := 5) (v := ?_) rfl (by kernel_rfl) (by kernel_rfl) (by kernel_rfl) (fun _ _ _ h => h) (Or.inl ⟨by kernel_rfl, ?_⟩) (by assumption) ?_
    rotate_left
    · (intro wz hSw; (try dsimp only at hSw); go_simp; (try with_reducible rfl))
    try simp only [List.getElem_toArray, List.getElem_cons_succ, List.getElem_cons_zero, Act.put, List.setIfInBounds_toArray, List.set_cons_zero, List.set_cons_succ]
    refine wpAnyH_ready (rs := [6]) (by kernel_rfl) (by simp) ?_
    refine AllReadyH.cons rfl (fun K hK => ?_) AllReadyH.nil
    go_simp
    (go_at_call 81; refine (k1 _ (by go_split_ands; assumption)).mono ?_; rintro e w2 ⟨v', l', rfl, hr, hnd, hmem, hb2⟩)
    (try go_wp2_with fail)
    refine hK.out _ _ ?_ (fun hHeld => ?_)
    · (try dsimp only)
      (first | (go_keep; done) | exact held_upA (by assumption) (by assumption) (Nat.le_refl _) | exact ⟨by assumption, by assumption, by assumption, by assumption, by assumption, by assumption, by assumption, by assumption, by assumption, by assumption, by assumption, by assumption, by assumption, by assumption, Below.drew (by assumption)⟩)
    clear hK K
    try simp only [List.getElem_toArray, List.getElem_cons_succ, List.getElem_cons_zero, Act.put, List.setIfInBounds_toArray, List.set_cons_zero, List.set_cons_succ]
    refine wpAnyH_ready (rs := [7]) (by kernel_rfl) (by simp) ?_
    refine AllReadyH.cons rfl (fun K hK => ?_) AllReadyH.nil
    go_simp
    (go_at_call 80; refine (k2 _ v' l' hr (by go_split_ands; assumption)).mono ?_; rintro e w3 ⟨rfl, hb3⟩)
    (try go_wp2_with fail)
    refine hK.out _ _ ?_ (fun hHeld => ?_)
    · (try dsimp only)
      (first | (go_keep; done) | exact held_upA (by assumption) (by assumption) (Nat.le_refl _) | exact ⟨by assumption, by assumption, by assumption, by assumption, by assumption, by assumption, by assumption, by assumption, by assumption, by assumption, by assumption, by assumption, by assumption, by assumption, Below.drew (by assumption)⟩)
    clear hK K
    try simp only [List.getElem_toArray, List.getElem_cons_succ, List.getElem_cons_zero, Act.put, List.setIfInBounds_toArray, List.set_cons_zero, List.set_cons_succ]
    refine wpAnyH_take (i := 8) (v := ?_) rfl (by kernel_rfl) (by kernel_rfl) (by kernel_rfl) (fun _ _ _ h => h) (Or.inl ⟨by kernel_rfl, ?_⟩) (by assumption) ?_
    rotate_left
    · (intro wz hSw; (try dsimp only at hSw); go_simp; (try with_reducible rfl))
    try simp only [List.getElem_toArray, List.getElem_cons_succ, List.getElem_cons_zero, Act.put, List.setIfInBounds_toArray, List.set_cons_zero, List.set_cons_succ]
    refine wpAnyH_take (i := 9) (v := ?_) rfl (by kernel_rfl) (by kernel_rfl) (by kernel_rfl) (fun _ _ _ h => h) (Or.inl ⟨by kernel_rfl, ?_⟩) (by assumption) ?_
    rotate_left
    · (intro wz hSw; (try dsimp only at hSw); go_simp; (try with_reducible rfl))
    try simp only [List.getElem_toArray, List.getElem_cons_succ, List.getElem_cons_zero, Act.put, List.setIfInBounds_toArray, List.set_cons_zero, List.set_cons_succ]
    refine wpAnyH_done (by kernel_rfl) ?_ _
    have HW := Hid.mk_ (acc_perm (T := (tallyP x.Base).getD 4 0) (p := accAt x.Base) hnd HN.out hmem)
    clear hmem hnd
    go_wp2_with fail
    go_ret
    exact ⟨ret_bool (by rw [HV.out, ← HW.out]; rfl), by first | assumption | (go_split_ands; assumption)⟩
end Go.Proofs.YtkldapdpaldbgaaGreat
namespace Go.Proofs.YtkldapdpaldbgaaGreat
open Go.RowKit
attribute [local go_sem ↓] execJob
attribute [local go_sem] loadResJob

theorem held_upC {B B9 g0 g k : Nat} {v0 v1 v2 v3 v6 u0 : Value} {W W9 w w' : World} (hb : Below w.heap.size w w') (h : w.cell? ⟨g0, 0, none⟩ = some v0 ∧ w.cell? ⟨g0, 1, none⟩ = some v1 ∧ w.cell? ⟨g0, 2, none⟩ = some v2 ∧ w.cell? ⟨g0, 3, none⟩ = some v3 ∧ w.cell? ⟨g0, 6, none⟩ = some v6 ∧ w.cell? ⟨g, k, none⟩ = some u0 ∧ g0 < w.heap.size ∧ g < w.heap.size ∧ Below B9 W9 w ∧ Below B W w) (hB : B ≤ g0) (h9 : B9 = W9.heap.size) :
    w'.cell? ⟨g0, 0, none⟩ = some v0 ∧ w'.cell? ⟨g0, 1, none⟩ = some v1 ∧ w'.cell? ⟨g0, 2, none⟩ = some v2 ∧ w'.cell? ⟨g0, 3, none⟩ = some v3 ∧ w'.cell? ⟨g0, 6, none⟩ = some v6 ∧ w'.cell? ⟨g, k, none⟩ = some u0 ∧ g0 < w'.heap.size ∧ g < w'.heap.size ∧ Below B9 W9 w' ∧ Below B W w' := by
  obtain ⟨a, b, c, d, l, p, m, n, f9, f⟩ := h
  subst h9
  exact ⟨cell_up hb m a, cell_up hb m b, cell_up hb m c, cell_up hb m d, cell_up hb m l, cell_up hb n p, Nat.lt_of_lt_of_le m hb.size, Nat.lt_of_lt_of_le n hb.size, f9.trans (hb.mono f9.size), f.trans (hb.mono (by omega))⟩

set_option maxRecDepth 100000 in
set_option maxHeartbeats 8000000 in
theorem Accounted_spec (w : World) (H : HShelf) (x : Shelf) (h : RdShelf w w.heap.size H x) (hs : szLL x.Base.Limbo ≤ 536870912) (hs1 : szLL x.Base.Mem.Lists.Global ≤ 536870912) (hs2 : szLL x.Base.Mem.Lists.Own ≤ 536870912) :
    Calls Tryz.prog 25 #[.agg #[.slice H.Base.Mem.Heap.Bytes.a H.Base.Mem.Heap.Bytes.len H.Base.Mem.Heap.Bytes.cap, .slice H.Base.Mem.Heap.Class.a H.Base.Mem.Heap.Class.len H.Base.Mem.Heap.Class.cap, .slice H.Base.Mem.Lists.Global.a H.Base.Mem.Lists.Global.len H.Base.Mem.Lists.Global.cap, .slice H.Base.Mem.Lists.Own.a H.Base.Mem.Lists.Own.len H.Base.Mem.Lists.Own.cap, .int .i64 x.Base.Clock.Epoch, .slice H.Base.Clock.Pins.a H.Base.Clock.Pins.len H.Base.Clock.Pins.cap, .slice H.Base.Limbo.a H.Base.Limbo.len H.Base.Limbo.cap, .slice H.Base.Haz.a H.Base.Haz.len H.Base.Haz.cap, .slice H.Cells.a H.Cells.len H.Cells.cap, .slice H.Jobs.a H.Jobs.len H.Jobs.cap, .slice H.Todo.a H.Todo.len H.Todo.cap, .slice H.Log.a H.Log.len H.Log.cap, .int .i64 x.Serial]] w fun e w' => e = .returned (.bool (accB x)) ∧ Below w.heap.size w w' := by
  have kB := fun (W : World) (hW : Below w.heap.size w W) => ShelfOk_spec W H x (rdShelf_up h hW) hs hs1 hs2
  have kU := fun (W : World) (hW : Below w.heap.size w W) => Named_spec W H x (rdShelf_up h hW) hs hs1 hs2
  have kT := fun (W : World) (hW : Below w.heap.size w W) => Tally_spec W H.Base x.Base (rdBase_up h.Base hW) hs hs1 hs2
  have kV := fun (hsh : shapeB x.Base.Mem.Heap = true) (i : Int) (W : World) (hW : Below w.heap.size w W) => l9Valid_spec W H.Base.Mem x.Base.Mem i (rdMem_up h.Base.Mem hW) hsh hs1 hs2
  have kL := fun (i : Int) (W : World) (hW : Below w.heap.size w W) => Lim.InLimbo_spec W _ _ x.Base.Limbo i (rdLL_up h.Base.Limbo hW) hs
  have HV : Hid (accB x = (shelfOkB x && (((namedS x).length : Int) == (tallyP x.Base).getD 4 0) && (namedS x).all (accAt x.Base))) := Hid.mk_ rfl
  have HE := Hid.mk_ (fun hne : namedS x ≠ [] => (show shelfOkB x = true by
    cases e : shelfOkB x with
    | true => rfl
    | false => exact absurd (if_neg (by rw [e]; decide)) hne))
  clear h
  have B_a : Box (w.alloc (.cells #[.slice H.Base.Mem.Heap.Bytes.a H.Base.Mem.Heap.Bytes.len H.Base.Mem.Heap.Bytes.cap, .slice H.Base.Mem.Heap.Class.a H.Base.Mem.Heap.Class.len H.Base.Mem.Heap.Class.cap, .slice H.Base.Mem.Lists.Global.a H.Base.Mem.Lists.Global.len H.Base.Mem.Lists.Global.cap, .slice H.Base.Mem.Lists.Own.a H.Base.Mem.Lists.Own.len H.Base.Mem.Lists.Own.cap, .int .i64 x.Base.Clock.Epoch, .slice H.Base.Clock.Pins.a H.Base.Clock.Pins.len H.Base.Clock.Pins.cap, .slice H.Base.Limbo.a H.Base.Limbo.len H.Base.Limbo.cap, .slice H.Base.Haz.a H.Base.Haz.len H.Base.Haz.cap, .slice H.Cells.a H.Cells.len H.Cells.cap, .slice H.Jobs.a H.Jobs.len H.Jobs.cap, .slice H.Todo.a H.Todo.len H.Todo.cap, .slice H.Log.a H.Log.len H.Log.cap, .int .i64 x.Serial] 69)) (w.heap.size) [.slice H.Base.Mem.Heap.Bytes.a H.Base.Mem.Heap.Bytes.len H.Base.Mem.Heap.Bytes.cap, .slice H.Base.Mem.Heap.Class.a H.Base.Mem.Heap.Class.len H.Base.Mem.Heap.Class.cap, .slice H.Base.Mem.Lists.Global.a H.Base.Mem.Lists.Global.len H.Base.Mem.Lists.Global.cap, .slice H.Base.Mem.Lists.Own.a H.Base.Mem.Lists.Own.len H.Base.Mem.Lists.Own.cap, .int .i64 x.Base.Clock.Epoch, .slice H.Base.Clock.Pins.a H.Base.Clock.Pins.len H.Base.Clock.Pins.cap, .slice H.Base.Limbo.a H.Base.Limbo.len H.Base.Limbo.cap, .slice H.Base.Haz.a H.Base.Haz.len H.Base.Haz.cap, .slice H.Cells.a H.Cells.len H.Cells.cap, .slice H.Jobs.a H.Jobs.len H.Jobs.cap, .slice H.Todo.a H.Todo.len H.Todo.cap, .slice H.Log.a H.Log.len H.Log.cap, .int .i64 x.Serial] := by
    have hbx := Box.new w #[.slice H.Base.Mem.Heap.Bytes.a H.Base.Mem.Heap.Bytes.len H.Base.Mem.Heap.Bytes.cap, .slice H.Base.Mem.Heap.Class.a H.Base.Mem.Heap.Class.len H.Base.Mem.Heap.Class.cap, .slice H.Base.Mem.Lists.Global.a H.Base.Mem.Lists.Global.len H.Base.Mem.Lists.Global.cap, .slice H.Base.Mem.Lists.Own.a H.Base.Mem.Lists.Own.len H.Base.Mem.Lists.Own.cap, .int .i64 x.Base.Clock.Epoch, .slice H.Base.Clock.Pins.a H.Base.Clock.Pins.len H.Base.Clock.Pins.cap, .slice H.Base.Limbo.a H.Base.Limbo.len H.Base.Limbo.cap, .slice H.Base.Haz.a H.Base.Haz.len H.Base.Haz.cap, .slice H.Cells.a H.Cells.len H.Cells.cap, .slice H.Jobs.a H.Jobs.len H.Jobs.cap, .slice H.Todo.a H.Todo.len H.Todo.cap, .slice H.Log.a H.Log.len H.Log.cap, .int .i64 x.Serial] 69
    exact hbx
  have hB : Below w.heap.size w (w.alloc (.cells #[.slice H.Base.Mem.Heap.Bytes.a H.Base.Mem.Heap.Bytes.len H.Base.Mem.Heap.Bytes.cap, .slice H.Base.Mem.Heap.Class.a H.Base.Mem.Heap.Class.len H.Base.Mem.Heap.Class.cap, .slice H.Base.Mem.Lists.Global.a H.Base.Mem.Lists.Global.len H.Base.Mem.Lists.Global.cap, .slice H.Base.Mem.Lists.Own.a H.Base.Mem.Lists.Own.len H.Base.Mem.Lists.Own.cap, .int .i64 x.Base.Clock.Epoch, .slice H.Base.Clock.Pins.a H.Base.Clock.Pins.len H.Base.Clock.Pins.cap, .slice H.Base.Limbo.a H.Base.Limbo.len H.Base.Limbo.cap, .slice H.Base.Haz.a H.Base.Haz.len H.Base.Haz.cap, .slice H.Cells.a H.Cells.len H.Cells.cap, .slice H.Jobs.a H.Jobs.len H.Jobs.cap, .slice H.Todo.a H.Todo.len H.Todo.cap, .slice H.Log.a H.Log.len H.Log.cap, .int .i64 x.Serial] 69)) := by repeat (first | exact Below.refl _ _ | refine Below.alloc ?_ (by simp <;> omega) _ | refine below_grow_of ?_ (by simp <;> omega) _ _ | refine Below.drew ?_ | refine below_drewN ?_ _)
  go_enter Tryz.func25, Tryz.ntmps25
  go_wp2_with fail
  generalize hW0 : (w.alloc (.cells #[.slice H.Base.Mem.Heap.Bytes.a H.Base.Mem.Heap.Bytes.len H.Base.Mem.Heap.Bytes.cap, .slice H.Base.Mem.Heap.Class.a H.Base.Mem.Heap.Class.len H.Base.Mem.Heap.Class.cap, .slice H.Base.Mem.Lists.Global.a H.Base.Mem.Lists.Global.len H.Base.Mem.Lists.Global.cap, .slice H.Base.Mem.Lists.Own.a H.Base.Mem.Lists.Own.len H.Base.Mem.Lists.Own.cap, .int .i64 x.Base.Clock.Epoch, .slice H.Base.Clock.Pins.a H.Base.Clock.Pins.len H.Base.Clock.Pins.cap, .slice H.Base.Limbo.a H.Base.Limbo.len H.Base.Limbo.cap, .slice H.Base.Haz.a H.Base.Haz.len H.Base.Haz.cap, .slice H.Cells.a H.Cells.len H.Cells.cap, .slice H.Jobs.a H.Jobs.len H.Jobs.cap, .slice H.Todo.a H.Todo.len H.Todo.cap, .slice H.Log.a H.Log.len H.Log.cap, .int .i64 x.Serial] 69)) = w0 at B_a hB ⊢
  clear hW0
  have zz_a := B_a.lt
  have q_a_0 := B_a.cell 0 _ rfl
  have q_a_1 := B_a.cell 1 _ rfl
  have q_a_2 := B_a.cell 2 _ rfl
  have q_a_3 := B_a.cell 3 _ rfl
  have q_a_4 := B_a.cell 4 _ rfl
  have q_a_5 := B_a.cell 5 _ rfl
  have q_a_6 := B_a.cell 6 _ rfl
  have q_a_7 := B_a.cell 7 _ rfl
  have q_a_8 := B_a.cell 8 _ rfl
  have q_a_9 := B_a.cell 9 _ rfl
  have q_a_10 := B_a.cell 10 _ rfl
  have q_a_11 := B_a.cell 11 _ rfl
  have q_a_12 := B_a.cell 12 _ rfl
  have fr_a := B_a.fro
  have z_a := B_a.lt
  refine (kU _ hB).mono ?_
  rintro e w9 ⟨v', rfl, ho, hb⟩
  replace B_a := B_a.below hb
  replace hB := hB.trans (hb.mono hB.size)
  clear hb kU q_a_0 q_a_1 q_a_2 q_a_3 q_a_4 q_a_5 q_a_6 q_a_7 q_a_8 q_a_9 q_a_10 q_a_11 q_a_12 fr_a z_a zz_a
  generalize namedS x = l at *
  obtain ⟨A, c, hv, _, q2, _⟩ := id ho
  subst hv
  have hlm : l.length ≤ 9223372036854775807 := by unfold maxLen at q2; omega
  clear q2
  go_wp2_with fail
  go_loopw [4] (fun i wr => ∃ k : Nat, k ≤ l.length ∧ i = .int .i64 k ∧ Hid ((l.take k).all (accAt x.Base) = true) ∧ Box wr w.heap.size [.slice H.Base.Mem.Heap.Bytes.a H.Base.Mem.Heap.Bytes.len H.Base.Mem.Heap.Bytes.cap, .slice H.Base.Mem.Heap.Class.a H.Base.Mem.Heap.Class.len H.Base.Mem.Heap.Class.cap, .slice H.Base.Mem.Lists.Global.a H.Base.Mem.Lists.Global.len H.Base.Mem.Lists.Global.cap, .slice H.Base.Mem.Lists.Own.a H.Base.Mem.Lists.Own.len H.Base.Mem.Lists.Own.cap, .int .i64 x.Base.Clock.Epoch, .slice H.Base.Clock.Pins.a H.Base.Clock.Pins.len H.Base.Clock.Pins.cap, .slice H.Base.Limbo.a H.Base.Limbo.len H.Base.Limbo.cap, .slice H.Base.Haz.a H.Base.Haz.len H.Base.Haz.cap, .slice H.Cells.a H.Cells.len H.Cells.cap, .slice H.Jobs.a H.Jobs.len H.Jobs.cap, .slice H.Todo.a H.Todo.len H.Todo.cap, .slice H.Log.a H.Log.len H.Log.cap, .int .i64 x.Serial] ∧ Below w9.heap.size w9 wr ∧ Below w.heap.size w wr) (fun i _ => l.length - (intOf i).toNat)
  case atStart => exact ⟨0, Nat.zero_le _, rfl, Hid.mk_ (by simp), B_a, Below.refl _ _, hB⟩
  case round =>
    clear B_a hB
    obtain ⟨i, hi, rfl, HR, B_a, hb9, hB⟩ := hrel
    have z_a := B_a.lt
    by_cases hlt : i < l.length
    · have hok := HE.out (by intro e; rw [e] at hlt; simp at hlt)
      have hsh := shelf_shape hok
      obtain ⟨g, off, cap', he, hg, _, _, hc⟩ := (rd_up ho hb9).at_ (List.getElem?_eq_getElem hlt)
      injection he with he1 he2 he3
      clear he2
      subst he1 he3
      have p0 := hc 0 _ rfl
      simp only [FI, Nat.mul_one, Nat.add_zero] at p0
      have hg9 : g < wr.heap.size := hg
      clear hc ho kB kT HE
      have b0 := B_a.cell 0 _ rfl
      have b1 := B_a.cell 1 _ rfl
      have b2 := B_a.cell 2 _ rfl
      have b3 := B_a.cell 3 _ rfl
      have b6 := B_a.cell 6 _ rfl
      have hb0 : Below wr.heap.size wr wr := Below.refl _ _
      have kv := kV hsh l[i]
      have kI := kL (l[i] % 32)
      have HOK := Hid.mk_ (fun e : liveB x.Base.Mem l[i] = true => live_ok e)
      have kS0 := fun (k : handleOkB l[i] = true) (W : World) => HandleSlot_spec l[i] W k
      clear kV kL
      have HAT : Hid (accAt x.Base l[i] = (liveB x.Base.Mem l[i] && !Lim.inLimboB x.Base.Limbo (l[i] % 32))) := Hid.mk_ rfl
      have HY := Hid.mk_ (fun e : accAt x.Base l[i] = true => all_step hlt HR.out e)
      have HX := Hid.mk_ (fun e : accAt x.Base l[i] = false => all_no hlt e)
      generalize l[i] = hd at *
      generalize accAt x.Base hd = at0 at *
      generalize liveB x.Base.Mem hd = lv at *
      generalize Lim.inLimboB x.Base.Limbo (hd % 32) = il at *
      clear hok
      cases lv with
      | false =>
        have HZ := Hid.mk_ (show accB x = false by rw [HV.out, HX.out (by rw [HAT.out]; rfl)]; simp)
        clear HOK kS0 kI
        go_wp2_with fail
        refine wp_region_held_drew (S := (fun wx => wx.cell? ⟨w.heap.size, 0, none⟩ = some (.slice H.Base.Mem.Heap.Bytes.a H.Base.Mem.Heap.Bytes.len H.Base.Mem.Heap.Bytes.cap) ∧ wx.cell? ⟨w.heap.size, 1, none⟩ = some (.slice H.Base.Mem.Heap.Class.a H.Base.Mem.Heap.Class.len H.Base.Mem.Heap.Class.cap) ∧ wx.cell? ⟨w.heap.size, 2, none⟩ = some (.slice H.Base.Mem.Lists.Global.a H.Base.Mem.Lists.Global.len H.Base.Mem.Lists.Global.cap) ∧ wx.cell? ⟨w.heap.size, 3, none⟩ = some (.slice H.Base.Mem.Lists.Own.a H.Base.Mem.Lists.Own.len H.Base.Mem.Lists.Own.cap) ∧ wx.cell? ⟨w.heap.size, 6, none⟩ = some (.slice H.Base.Limbo.a H.Base.Limbo.len H.Base.Limbo.cap) ∧ wx.cell? ⟨g, off + i, none⟩ = some (.int .i64 hd) ∧ w.heap.size < wx.heap.size ∧ g < wx.heap.size ∧ Below wr.heap.size wr wx ∧ Below w.heap.size w wx)) (by kernel_rfl) ?_ (fun hHeld => ?_)
        · (try dsimp only)
          (first | assumption | (go_keep; done) | exact held_upC (by assumption) (by assumption) (Nat.le_refl _) rfl | exact ⟨by assumption, by assumption, by assumption, by assumption, by assumption, by assumption, by assumption, by assumption, Below.drew (by assumption), Below.drew (by assumption)⟩)
        refine wpAnyH_take (i := 0) (v := ?_) rfl (by kernel_rfl) (by kernel_rfl) (by kernel_rfl) (fun _ _ _ h => h) (Or.inl ⟨by kernel_rfl, ?_⟩) (by assumption) ?_
        rotate_left
        · (intro wz hSw; (try dsimp only at hSw); go_simp; (try with_reducible rfl))
        try simp only [List.getElem_toArray, List.getElem_cons_zero, Act.put, List.setIfInBounds_toArray, List.set_cons_zero, List.set_cons_succ]
        refine wpAnyH_take (i := 1) (v := ?_) rfl (by kernel_rfl) (by kernel_rfl) (by kernel_rfl) (fun _ _ _ h => h) (Or.inl ⟨by kernel_rfl, ?_⟩) (by assumption) ?_
        rotate_left
        · (intro wz hSw; (try dsimp only at hSw); go_simp; (try with_reducible rfl))
        try simp only [List.getElem_toArray, List.getElem_cons_succ, List.getElem_cons_zero, Act.put, List.setIfInBounds_toArray, List.set_cons_zero, List.set_cons_succ]
        refine wpAnyH_take (i := 2) (v := ?_) rfl (by kernel_rfl) (by kernel_rfl) (by kernel_rfl) (fun _ _ _ h => h) (Or.inl ⟨by kernel_rfl, ?_⟩) (by assumption) ?_
        rotate_left
        · (intro wz hSw; (try dsimp only at hSw); go_simp; (try with_reducible rfl))
        try simp only [List.getElem_toArray, List.getElem_cons_succ, List.getElem_cons_zero, Act.put, List.setIfInBounds_toArray, List.set_cons_zero, List.set_cons_succ]
        refine wpAnyH_take (i := 3) (v := ?_) rfl (by kernel_rfl) (by kernel_rfl) (by kernel_rfl) (fun _ _ _ h => h) (Or.inl ⟨by kernel_rfl, ?_⟩) (by assumption) ?_
        rotate_left
        · (intro wz hSw; (try dsimp only at hSw); go_simp; (try with_reducible rfl))
        try simp only [List.getElem_toArray, List.getElem_cons_succ, List.getElem_cons_zero, Act.put, List.setIfInBounds_toArray, List.set_cons_zero, List.set_cons_succ]
        refine wpAnyH_take (i := 4) (v := ?_) rfl (by kernel_rfl) (by kernel_rfl) (by kernel_rfl) (fun _ _ _ h => h) (Or.inl ⟨by kernel_rfl, ?_⟩) (by assumption) ?_
        rotate_left
        · (intro wz hSw; (try dsimp only at hSw); go_simp; (try with_reducible rfl))
        try simp only [List.getElem_toArray, List.getElem_cons_succ, List.getElem_cons_zero, Act.put, List.setIfInBounds_toArray, List.set_cons_zero, List.set_cons_succ]
        refine wpAnyH_take (i := 5) (v := ?_) rfl (by kernel_rfl) (by kernel_rfl) (by kernel_rfl) (fun _ _ _ h => h) (Or.inl ⟨by kernel_rfl, ?_⟩) (by assumption) ?_
        rotate_left
        · (intro wz hSw; (try dsimp only at hSw); go_simp; (try with_reducible rfl))
        try simp only [List.getElem_toArray, List.getElem_cons_succ, List.getElem_cons_zero, Act.put, List.setIfInBounds_toArray, List.set_cons_zero, List.set_cons_succ]
        refine wpAnyH_take (i := 6) (v := ?_) rfl (by kernel_rfl) (by kernel_rfl) (by kernel_rfl) (fun _ _ _ h => h) (Or.inl ⟨by kernel_rfl, ?_⟩) (by assumption) ?_
        rotate_left
        · (intro wz hSw; (try dsimp only at hSw); go_simp; (try with_reducible rfl))
        try simp only [List.getElem_toArray, List.getElem_cons_succ, List.getElem_cons_zero, Act.put, List.setIfInBounds_toArray, List.set_cons_zero, List.set_cons_succ]
        refine wpAnyH_ready (rs := [7]) (by kernel_rfl) (by simp) ?_
        refine AllReadyH.cons rfl (fun K hK => ?_) AllReadyH.nil
        go_simp
        (go_at_call 53; refine (kv _ (by go_split_ands; assumption)).mono ?_; rintro e w1 ⟨rfl, hb1⟩)
        (try go_wp2_with fail)
        refine hK.out _ _ ?_ (fun hHeld => ?_)
        · (try dsimp only)
          (first | assumption | (go_keep; done) | exact held_upC (by assumption) (by assumption) (Nat.le_refl _) rfl | exact ⟨by assumption, by assumption, by assumption, by assumption, by assumption, by assumption, by assumption, by assumption, Below.drew (by assumption), Below.drew (by assumption)⟩)
        clear hK K
        try simp only [List.getElem_toArray, List.getElem_cons_succ, List.getElem_cons_zero, Act.put, List.setIfInBounds_toArray, List.set_cons_zero, List.set_cons_succ]
        refine wpAnyH_take (i := 8) (v := ?_) rfl (by kernel_rfl) (by kernel_rfl) (by kernel_rfl) (fun _ _ _ h => h) (Or.inl ⟨by kernel_rfl, ?_⟩) (by assumption) ?_
        rotate_left
        · (intro wz hSw; (try dsimp only at hSw); go_simp; (try with_reducible rfl))
        try simp only [List.getElem_toArray, List.getElem_cons_succ, List.getElem_cons_zero, Act.put, List.setIfInBounds_toArray, List.set_cons_zero, List.set_cons_succ]
        refine wpAnyH_take (i := 9) (v := ?_) rfl (by kernel_rfl) (by kernel_rfl) (by kernel_rfl) (fun _ _ _ h => h) (Or.inl ⟨by kernel_rfl, ?_⟩) (by assumption) ?_
        rotate_left
        · (intro wz hSw; (try dsimp only at hSw); go_simp; (try with_reducible rfl))
        try simp only [List.getElem_toArray, List.getElem_cons_succ, List.getElem_cons_zero, Act.put, List.setIfInBounds_toArray, List.set_cons_zero, List.set_cons_succ]
        refine wpAnyH_take (i := 10) (v := undef) rfl (by kernel_rfl) (by kernel_rfl) (by kernel_rfl) (fun _ _ _ h => h) (Or.inr ⟨by kernel_rfl, rfl⟩) (by assumption) ?_
        try simp only [List.getElem_toArray, List.getElem_cons_succ, List.getElem_cons_zero, Act.put, List.setIfInBounds_toArray, List.set_cons_zero, List.set_cons_succ]
        refine wpAnyH_take (i := 11) (v := undef) rfl (by kernel_rfl) (by kernel_rfl) (by kernel_rfl) (fun _ _ _ h => h) (Or.inr ⟨by kernel_rfl, rfl⟩) (by assumption) ?_
        try simp only [List.getElem_toArray, List.getElem_cons_succ, List.getElem_cons_zero, Act.put, List.setIfInBounds_toArray, List.set_cons_zero, List.set_cons_succ]
        refine wpAnyH_take (i := 12) (v := undef) rfl (by kernel_rfl) (by kernel_rfl) (by kernel_rfl) (fun _ _ _ h => h) (Or.inr ⟨by kernel_rfl, rfl⟩) (by assumption) ?_
        try simp only [List.getElem_toArray, List.getElem_cons_succ, List.getElem_cons_zero, Act.put, List.setIfInBounds_toArray, List.set_cons_zero, List.set_cons_succ]
        refine wpAnyH_take (i := 13) (v := undef) rfl (by kernel_rfl) (by kernel_rfl) (by kernel_rfl) (fun _ _ _ h => h) (Or.inr ⟨by kernel_rfl, rfl⟩) (by assumption) ?_
        try simp only [List.getElem_toArray, List.getElem_cons_succ, List.getElem_cons_zero, Act.put, List.setIfInBounds_toArray, List.set_cons_zero, List.set_cons_succ]
        refine wpAnyH_take (i := 14) (v := undef) rfl (by kernel_rfl) (by kernel_rfl) (by kernel_rfl) (fun _ _ _ h => h) (Or.inr ⟨by kernel_rfl, rfl⟩) (by assumption) ?_
        try simp only [List.getElem_toArray, List.getElem_cons_succ, List.getElem_cons_zero, Act.put, List.setIfInBounds_toArray, List.set_cons_zero, List.set_cons_succ]
        refine wpAnyH_take (i := 15) (v := undef) rfl (by kernel_rfl) (by kernel_rfl) (by kernel_rfl) (fun _ _ _ h => h) (Or.inr ⟨by kernel_rfl, rfl⟩) (by assumption) ?_
        try simp only [List.getElem_toArray, List.getElem_cons_succ, List.getElem_cons_zero, Act.put, List.setIfInBounds_toArray, List.set_cons_zero, List.set_cons_succ]
        refine wpAnyH_take (i := 16) (v := undef) rfl (by kernel_rfl) (by kernel_rfl) (by kernel_rfl) (fun _ _ _ h => h) (Or.inr ⟨by kernel_rfl, rfl⟩) (by assumption) ?_
        try simp only [List.getElem_toArray, List.getElem_cons_succ, List.getElem_cons_zero, Act.put, List.setIfInBounds_toArray, List.set_cons_zero, List.set_cons_succ]
        refine wpAnyH_take (i := 17) (v := undef) rfl (by kernel_rfl) (by kernel_rfl) (by kernel_rfl) (fun _ _ _ h => h) (Or.inr ⟨by kernel_rfl, rfl⟩) (by assumption) ?_
        try simp only [List.getElem_toArray, List.getElem_cons_succ, List.getElem_cons_zero, Act.put, List.setIfInBounds_toArray, List.set_cons_zero, List.set_cons_succ]
        refine wpAnyH_take (i := 18) (v := undef) rfl (by kernel_rfl) (by kernel_rfl) (by kernel_rfl) (fun _ _ _ h => h) (Or.inr ⟨by kernel_rfl, rfl⟩) (by assumption) ?_
        try simp only [List.getElem_toArray, List.getElem_cons_succ, List.getElem_cons_zero, Act.put, List.setIfInBounds_toArray, List.set_cons_zero, List.set_cons_succ]
        refine wpAnyH_take (i := 19) (v := ?_) rfl (by kernel_rfl) (by kernel_rfl) (by kernel_rfl) (fun _ _ _ h => h) (Or.inl ⟨by kernel_rfl, ?_⟩) (by assumption) ?_
        rotate_left
        · (intro wz hSw; (try dsimp only at hSw); go_simp; (try with_reducible rfl))
        try simp only [List.getElem_toArray, List.getElem_cons_succ, List.getElem_cons_zero, Act.put, List.setIfInBounds_toArray, List.set_cons_zero, List.set_cons_succ]
        refine wpAnyH_done (by kernel_rfl) ?_ _
        go_wp2_with fail
        go_ret
        exact ⟨ret_bool HZ.out.symm, by first | assumption | (go_split_ands; assumption)⟩
      | true =>
        have kS := kS0 (HOK.out rfl)
        clear kS0 HOK
        cases il with
        | true =>
          have HZ := Hid.mk_ (show accB x = false by rw [HV.out, HX.out (by rw [HAT.out]; rfl)]; simp)
          go_wp2_with fail
          refine wp_region_held_drew (S := (fun wx => wx.cell? ⟨w.heap.size, 0, none⟩ = some (.slice H.Base.Mem.Heap.Bytes.a H.Base.Mem.Heap.Bytes.len H.Base.Mem.Heap.Bytes.cap) ∧ wx.cell? ⟨w.heap.size, 1, none⟩ = some (.slice H.Base.Mem.Heap.Class.a H.Base.Mem.Heap.Class.len H.Base.Mem.Heap.Class.cap) ∧ wx.cell? ⟨w.heap.size, 2, none⟩ = some (.slice H.Base.Mem.Lists.Global.a H.Base.Mem.Lists.Global.len H.Base.Mem.Lists.Global.cap) ∧ wx.cell? ⟨w.heap.size, 3, none⟩ = some (.slice H.Base.Mem.Lists.Own.a H.Base.Mem.Lists.Own.len H.Base.Mem.Lists.Own.cap) ∧ wx.cell? ⟨w.heap.size, 6, none⟩ = some (.slice H.Base.Limbo.a H.Base.Limbo.len H.Base.Limbo.cap) ∧ wx.cell? ⟨g, off + i, none⟩ = some (.int .i64 hd) ∧ w.heap.size < wx.heap.size ∧ g < wx.heap.size ∧ Below wr.heap.size wr wx ∧ Below w.heap.size w wx)) (by kernel_rfl) ?_ (fun hHeld => ?_)
          · (try dsimp only)
            (first | assumption | (go_keep; done) | exact held_upC (by assumption) (by assumption) (Nat.le_refl _) rfl | exact ⟨by assumption, by assumption, by assumption, by assumption, by assumption, by assumption, by assumption, by assumption, Below.drew (by assumption), Below.drew (by assumption)⟩)
          refine wpAnyH_take (i := 0) (v := ?_) rfl (by kernel_rfl) (by kernel_rfl) (by kernel_rfl) (fun _ _ _ h => h) (Or.inl ⟨by kernel_rfl, ?_⟩) (by assumption) ?_
          rotate_left
          · (intro wz hSw; (try dsimp only at hSw); go_simp; (try with_reducible rfl))
          try simp only [List.getElem_toArray, List.getElem_cons_zero, Act.put, List.setIfInBounds_toArray, List.set_cons_zero, List.set_cons_succ]
          refine wpAnyH_take (i := 1) (v := ?_) rfl (by kernel_rfl) (by kernel_rfl) (by kernel_rfl) (fun _ _ _ h => h) (Or.inl ⟨by kernel_rfl, ?_⟩) (by assumption) ?_
          rotate_left
          · (intro wz hSw; (try dsimp only at hSw); go_simp; (try with_reducible rfl))
          try simp only [List.getElem_toArray, List.getElem_cons_succ, List.getElem_cons_zero, Act.put, List.setIfInBounds_toArray, List.set_cons_zero, List.set_cons_succ]
          refine wpAnyH_take (i := 2) (v := ?_) rfl (by kernel_rfl) (by kernel_rfl) (by kernel_rfl) (fun _ _ _ h => h) (Or.inl ⟨by kernel_rfl, ?_⟩) (by assumption) ?_
          rotate_left
          · (intro wz hSw; (try dsimp only at hSw); go_simp; (try with_reducible rfl))
          try simp only [List.getElem_toArray, List.getElem_cons_succ, List.getElem_cons_zero, Act.put, List.setIfInBounds_toArray, List.set_cons_zero, List.set_cons_succ]
          refine wpAnyH_take (i := 3) (v := ?_) rfl (by kernel_rfl) (by kernel_rfl) (by kernel_rfl) (fun _ _ _ h => h) (Or.inl ⟨by kernel_rfl, ?_⟩) (by assumption) ?_
          rotate_left
          · (intro wz hSw; (try dsimp only at hSw); go_simp; (try with_reducible rfl))
          try simp only [List.getElem_toArray, List.getElem_cons_succ, List.getElem_cons_zero, Act.put, List.setIfInBounds_toArray, List.set_cons_zero, List.set_cons_succ]
          refine wpAnyH_take (i := 4) (v := ?_) rfl (by kernel_rfl) (by kernel_rfl) (by kernel_rfl) (fun _ _ _ h => h) (Or.inl ⟨by kernel_rfl, ?_⟩) (by assumption) ?_
          rotate_left
          · (intro wz hSw; (try dsimp only at hSw); go_simp; (try with_reducible rfl))
          try simp only [List.getElem_toArray, List.getElem_cons_succ, List.getElem_cons_zero, Act.put, List.setIfInBounds_toArray, List.set_cons_zero, List.set_cons_succ]
          refine wpAnyH_take (i := 5) (v := ?_) rfl (by kernel_rfl) (by kernel_rfl) (by kernel_rfl) (fun _ _ _ h => h) (Or.inl ⟨by kernel_rfl, ?_⟩) (by assumption) ?_
          rotate_left
          · (intro wz hSw; (try dsimp only at hSw); go_simp; (try with_reducible rfl))
          try simp only [List.getElem_toArray, List.getElem_cons_succ, List.getElem_cons_zero, Act.put, List.setIfInBounds_toArray, List.set_cons_zero, List.set_cons_succ]
          refine wpAnyH_take (i := 6) (v := ?_) rfl (by kernel_rfl) (by kernel_rfl) (by kernel_rfl) (fun _ _ _ h => h) (Or.inl ⟨by kernel_rfl, ?_⟩) (by assumption) ?_
          rotate_left
          · (intro wz hSw; (try dsimp only at hSw); go_simp; (try with_reducible rfl))
          try simp only [List.getElem_toArray, List.getElem_cons_succ, List.getElem_cons_zero, Act.put, List.setIfInBounds_toArray, List.set_cons_zero, List.set_cons_succ]
          refine wpAnyH_ready (rs := [7]) (by kernel_rfl) (by simp) ?_
          refine AllReadyH.cons rfl (fun K hK => ?_) AllReadyH.nil
          go_simp
          (go_at_call 53; refine (kv _ (by go_split_ands; assumption)).mono ?_; rintro e w1 ⟨rfl, hb1⟩)
          (try go_wp2_with fail)
          refine hK.out _ _ ?_ (fun hHeld => ?_)
          · (try dsimp only)
            (first | assumption | (go_keep; done) | exact held_upC (by assumption) (by assumption) (Nat.le_refl _) rfl | exact ⟨by assumption, by assumption, by assumption, by assumption, by assumption, by assumption, by assumption, by assumption, Below.drew (by assumption), Below.drew (by assumption)⟩)
          clear hK K
          try simp only [List.getElem_toArray, List.getElem_cons_succ, List.getElem_cons_zero, Act.put, List.setIfInBounds_toArray, List.set_cons_zero, List.set_cons_succ]
          refine wpAnyH_take (i := 8) (v := ?_) rfl (by kernel_rfl) (by kernel_rfl) (by kernel_rfl) (fun _ _ _ h => h) (Or.inl ⟨by kernel_rfl, ?_⟩) (by assumption) ?_
          rotate_left
          · (intro wz hSw; (try dsimp only at hSw); go_simp; (try with_reducible rfl))
          try simp only [List.getElem_toArray, List.getElem_cons_succ, List.getElem_cons_zero, Act.put, List.setIfInBounds_toArray, List.set_cons_zero, List.set_cons_succ]
          refine wpAnyH_take (i := 9) (v := ?_) rfl (by kernel_rfl) (by kernel_rfl) (by kernel_rfl) (fun _ _ _ h => h) (Or.inl ⟨by kernel_rfl, ?_⟩) (by assumption) ?_
          rotate_left
          · (intro wz hSw; (try dsimp only at hSw); go_simp; (try with_reducible rfl))
          try simp only [List.getElem_toArray, List.getElem_cons_succ, List.getElem_cons_zero, Act.put, List.setIfInBounds_toArray, List.set_cons_zero, List.set_cons_succ]
          refine wpAnyH_take (i := 10) (v := ?_) rfl (by kernel_rfl) (by kernel_rfl) (by kernel_rfl) (fun _ _ _ h => h) (Or.inl ⟨by kernel_rfl, ?_⟩) (by assumption) ?_
          rotate_left
          · (intro wz hSw; (try dsimp only at hSw); go_simp; (try with_reducible rfl))
          try simp only [List.getElem_toArray, List.getElem_cons_succ, List.getElem_cons_zero, Act.put, List.setIfInBounds_toArray, List.set_cons_zero, List.set_cons_succ]
          refine wpAnyH_take (i := 11) (v := ?_) rfl (by kernel_rfl) (by kernel_rfl) (by kernel_rfl) (fun _ _ _ h => h) (Or.inl ⟨by kernel_rfl, ?_⟩) (by assumption) ?_
          rotate_left
          · (intro wz hSw; (try dsimp only at hSw); go_simp; (try with_reducible rfl))
          try simp only [List.getElem_toArray, List.getElem_cons_succ, List.getElem_cons_zero, Act.put, List.setIfInBounds_toArray, List.set_cons_zero, List.set_cons_succ]
          refine wpAnyH_take (i := 12) (v := ?_) rfl (by kernel_rfl) (by kernel_rfl) (by kernel_rfl) (fun _ _ _ h => h) (Or.inl ⟨by kernel_rfl, ?_⟩) (by assumption) ?_
          rotate_left
          · (intro wz hSw; (try dsimp only at hSw); go_simp; (try with_reducible rfl))
          try simp only [List.getElem_toArray, List.getElem_cons_succ, List.getElem_cons_zero, Act.put, List.setIfInBounds_toArray, List.set_cons_zero, List.set_cons_succ]
          refine wpAnyH_take (i := 13) (v := ?_) rfl (by kernel_rfl) (by kernel_rfl) (by kernel_rfl) (fun _ _ _ h => h) (Or.inl ⟨by kernel_rfl, ?_⟩) (by assumption) ?_
          rotate_left
          · (intro wz hSw; (try dsimp only at hSw); go_simp; (try with_reducible rfl))
          try simp only [List.getElem_toArray, List.getElem_cons_succ, List.getElem_cons_zero, Act.put, List.setIfInBounds_toArray, List.set_cons_zero, List.set_cons_succ]
          refine wpAnyH_take (i := 14) (v := ?_) rfl (by kernel_rfl) (by kernel_rfl) (by kernel_rfl) (fun _ _ _ h => h) (Or.inl ⟨by kernel_rfl, ?_⟩) (by assumption) ?_
          rotate_left
          · (intro wz hSw; (try dsimp only at hSw); go_simp; (try with_reducible rfl))
          try simp only [List.getElem_toArray, List.getElem_cons_succ, List.getElem_cons_zero, Act.put, List.setIfInBounds_toArray, List.set_cons_zero, List.set_cons_succ]
          refine wpAnyH_take (i := 15) (v := ?_) rfl (by kernel_rfl) (by kernel_rfl) (by kernel_rfl) (fun _ _ _ h => h) (Or.inl ⟨by kernel_rfl, ?_⟩) (by assumption) ?_
          rotate_left
          · (intro wz hSw; (try dsimp only at hSw); go_simp; (try with_reducible rfl))
          try simp only [List.getElem_toArray, List.getElem_cons_succ, List.getElem_cons_zero, Act.put, List.setIfInBounds_toArray, List.set_cons_zero, List.set_cons_succ]
          refine wpAnyH_take (i := 16) (v := ?_) rfl (by kernel_rfl) (by kernel_rfl) (by kernel_rfl) (fun _ _ _ h => h) (Or.inl ⟨by kernel_rfl, ?_⟩) (by assumption) ?_
          rotate_left
          · (intro wz hSw; (try dsimp only at hSw); go_simp; (try with_reducible rfl))
          try simp only [List.getElem_toArray, List.getElem_cons_succ, List.getElem_cons_zero, Act.put, List.setIfInBounds_toArray, List.set_cons_zero, List.set_cons_succ]
          refine wpAnyH_ready (rs := [17]) (by kernel_rfl) (by simp) ?_
          refine AllReadyH.cons rfl (fun K hK => ?_) AllReadyH.nil
          go_simp
          (go_at_call 79; refine (kS _).mono ?_; rintro e w2 ⟨rfl, rfl⟩)
          (try go_wp2_with fail)
          refine hK.out _ _ ?_ (fun hHeld => ?_)
          · (try dsimp only)
            (first | assumption | (go_keep; done) | exact held_upC (by assumption) (by assumption) (Nat.le_refl _) rfl | exact ⟨by assumption, by assumption, by assumption, by assumption, by assumption, by assumption, by assumption, by assumption, Below.drew (by assumption), Below.drew (by assumption)⟩)
          clear hK K
          try simp only [List.getElem_toArray, List.getElem_cons_succ, List.getElem_cons_zero, Act.put, List.setIfInBounds_toArray, List.set_cons_zero, List.set_cons_succ]
          refine wpAnyH_ready (rs := [18]) (by kernel_rfl) (by simp) ?_
          refine AllReadyH.cons rfl (fun K hK => ?_) AllReadyH.nil
          go_simp
          (go_at_call 78; refine (kI _ (by go_split_ands; assumption)).mono ?_; rintro e w3 ⟨rfl, hb3⟩)
          (try go_wp2_with fail)
          refine hK.out _ _ ?_ (fun hHeld => ?_)
          · (try dsimp only)
            (first | assumption | (go_keep; done) | exact held_upC (by assumption) (by assumption) (Nat.le_refl _) rfl | exact ⟨by assumption, by assumption, by assumption, by assumption, by assumption, by assumption, by assumption, by assumption, Below.drew (by assumption), Below.drew (by assumption)⟩)
          clear hK K
          try simp only [List.getElem_toArray, List.getElem_cons_succ, List.getElem_cons_zero, Act.put, List.setIfInBounds_toArray, List.set_cons_zero, List.set_cons_succ]
          refine wpAnyH_take (i := 19) (v := ?_) rfl (by kernel_rfl) (by kernel_rfl) (by kernel_rfl) (fun _ _ _ h => h) (Or.inl ⟨by kernel_rfl, ?_⟩) (by assumption) ?_
          rotate_left
          · (intro wz hSw; (try dsimp only at hSw); go_simp; (try with_reducible rfl))
          try simp only [List.getElem_toArray, List.getElem_cons_succ, List.getElem_cons_zero, Act.put, List.setIfInBounds_toArray, List.set_cons_zero, List.set_cons_succ]
          refine wpAnyH_done (by kernel_rfl) ?_ _
          go_wp2_with fail
          go_ret
          exact ⟨ret_bool HZ.out.symm, by first | assumption | (go_split_ands; assumption)⟩
        | false =>
          have HZ := Hid.mk_ (HY.out (by rw [HAT.out]; rfl))
          go_wp2_with fail
          refine wp_region_held_drew (S := (fun wx => wx.cell? ⟨w.heap.size, 0, none⟩ = some (.slice H.Base.Mem.Heap.Bytes.a H.Base.Mem.Heap.Bytes.len H.Base.Mem.Heap.Bytes.cap) ∧ wx.cell? ⟨w.heap.size, 1, none⟩ = some (.slice H.Base.Mem.Heap.Class.a H.Base.Mem.Heap.Class.len H.Base.Mem.Heap.Class.cap) ∧ wx.cell? ⟨w.heap.size, 2, none⟩ = some (.slice H.Base.Mem.Lists.Global.a H.Base.Mem.Lists.Global.len H.Base.Mem.Lists.Global.cap) ∧ wx.cell? ⟨w.heap.size, 3, none⟩ = some (.slice H.Base.Mem.Lists.Own.a H.Base.Mem.Lists.Own.len H.Base.Mem.Lists.Own.cap) ∧ wx.cell? ⟨w.heap.size, 6, none⟩ = some (.slice H.Base.Limbo.a H.Base.Limbo.len H.Base.Limbo.cap) ∧ wx.cell? ⟨g, off + i, none⟩ = some (.int .i64 hd) ∧ w.heap.size < wx.heap.size ∧ g < wx.heap.size ∧ Below wr.heap.size wr wx ∧ Below w.heap.size w wx)) (by kernel_rfl) ?_ (fun hHeld => ?_)
          · (try dsimp only)
            (first | assumption | (go_keep; done) | exact held_upC (by assumption) (by assumption) (Nat.le_refl _) rfl | exact ⟨by assumption, by assumption, by assumption, by assumption, by assumption, by assumption, by assumption, by assumption, Below.drew (by assumption), Below.drew (by assumption)⟩)
          refine wpAnyH_take (i := 0) (v := ?_) rfl (by kernel_rfl) (by kernel_rfl) (by kernel_rfl) (fun _ _ _ h => h) (Or.inl ⟨by kernel_rfl, ?_⟩) (by assumption) ?_
          rotate_left
          · (intro wz hSw; (try dsimp only at hSw); go_simp; (try with_reducible rfl))
          try simp only [List.getElem_toArray, List.getElem_cons_zero, Act.put, List.setIfInBounds_toArray, List.set_cons_zero, List.set_cons_succ]
          refine wpAnyH_take (i := 1) (v := ?_) rfl (by kernel_rfl) (by kernel_rfl) (by kernel_rfl) (fun _ _ _ h => h) (Or.inl ⟨by kernel_rfl, ?_⟩) (by assumption) ?_
          rotate_left
          · (intro wz hSw; (try dsimp only at hSw); go_simp; (try with_reducible rfl))
          try simp only [List.getElem_toArray, List.getElem_cons_succ, List.getElem_cons_zero, Act.put, List.setIfInBounds_toArray, List.set_cons_zero, List.set_cons_succ]
          refine wpAnyH_take (i := 2) (v := ?_) rfl (by kernel_rfl) (by kernel_rfl) (by kernel_rfl) (fun _ _ _ h => h) (Or.inl ⟨by kernel_rfl, ?_⟩) (by assumption) ?_
          rotate_left
          · (intro wz hSw; (try dsimp only at hSw); go_simp; (try with_reducible rfl))
          try simp only [List.getElem_toArray, List.getElem_cons_succ, List.getElem_cons_zero, Act.put, List.setIfInBounds_toArray, List.set_cons_zero, List.set_cons_succ]
          refine wpAnyH_take (i := 3) (v := ?_) rfl (by kernel_rfl) (by kernel_rfl) (by kernel_rfl) (fun _ _ _ h => h) (Or.inl ⟨by kernel_rfl, ?_⟩) (by assumption) ?_
          rotate_left
          · (intro wz hSw; (try dsimp only at hSw); go_simp; (try with_reducible rfl))
          try simp only [List.getElem_toArray, List.getElem_cons_succ, List.getElem_cons_zero, Act.put, List.setIfInBounds_toArray, List.set_cons_zero, List.set_cons_succ]
          refine wpAnyH_take (i := 4) (v := ?_) rfl (by kernel_rfl) (by kernel_rfl) (by kernel_rfl) (fun _ _ _ h => h) (Or.inl ⟨by kernel_rfl, ?_⟩) (by assumption) ?_
          rotate_left
          · (intro wz hSw; (try dsimp only at hSw); go_simp; (try with_reducible rfl))
          try simp only [List.getElem_toArray, List.getElem_cons_succ, List.getElem_cons_zero, Act.put, List.setIfInBounds_toArray, List.set_cons_zero, List.set_cons_succ]
          refine wpAnyH_take (i := 5) (v := ?_) rfl (by kernel_rfl) (by kernel_rfl) (by kernel_rfl) (fun _ _ _ h => h) (Or.inl ⟨by kernel_rfl, ?_⟩) (by assumption) ?_
          rotate_left
          · (intro wz hSw; (try dsimp only at hSw); go_simp; (try with_reducible rfl))
          try simp only [List.getElem_toArray, List.getElem_cons_succ, List.getElem_cons_zero, Act.put, List.setIfInBounds_toArray, List.set_cons_zero, List.set_cons_succ]
          refine wpAnyH_take (i := 6) (v := ?_) rfl (by kernel_rfl) (by kernel_rfl) (by kernel_rfl) (fun _ _ _ h => h) (Or.inl ⟨by kernel_rfl, ?_⟩) (by assumption) ?_
          rotate_left
          · (intro wz hSw; (try dsimp only at hSw); go_simp; (try with_reducible rfl))
          try simp only [List.getElem_toArray, List.getElem_cons_succ, List.getElem_cons_zero, Act.put, List.setIfInBounds_toArray, List.set_cons_zero, List.set_cons_succ]
          refine wpAnyH_ready (rs := [7]) (by kernel_rfl) (by simp) ?_
          refine AllReadyH.cons rfl (fun K hK => ?_) AllReadyH.nil
          go_simp
          (go_at_call 53; refine (kv _ (by go_split_ands; assumption)).mono ?_; rintro e w1 ⟨rfl, hb1⟩)
          (try go_wp2_with fail)
          refine hK.out _ _ ?_ (fun hHeld => ?_)
          · (try dsimp only)
            (first | assumption | (go_keep; done) | exact held_upC (by assumption) (by assumption) (Nat.le_refl _) rfl | exact ⟨by assumption, by assumption, by assumption, by assumption, by assumption, by assumption, by assumption, by assumption, Below.drew (by assumption), Below.drew (by assumption)⟩)
          clear hK K
          try simp only [List.getElem_toArray, List.getElem_cons_succ, List.getElem_cons_zero, Act.put, List.setIfInBounds_toArray, List.set_cons_zero, List.set_cons_succ]
          refine wpAnyH_take (i := 8) (v := ?_) rfl (by kernel_rfl) (by kernel_rfl) (by kernel_rfl) (fun _ _ _ h => h) (Or.inl ⟨by kernel_rfl, ?_⟩) (by assumption) ?_
          rotate_left
          · (intro wz hSw; (try dsimp only at hSw); go_simp; (try with_reducible rfl))
          try simp only [List.getElem_toArray, List.getElem_cons_succ, List.getElem_cons_zero, Act.put, List.setIfInBounds_toArray, List.set_cons_zero, List.set_cons_succ]
          refine wpAnyH_take (i := 9) (v := ?_) rfl (by kernel_rfl) (by kernel_rfl) (by kernel_rfl) (fun _ _ _ h => h) (Or.inl ⟨by kernel_rfl, ?_⟩) (by assumption) ?_
          rotate_left
          · (intro wz hSw; (try dsimp only at hSw); go_simp; (try with_reducible rfl))
          try simp only [List.getElem_toArray, List.getElem_cons_succ, List.getElem_cons_zero, Act.put, List.setIfInBounds_toArray, List.set_cons_zero, List.set_cons_succ]
          refine wpAnyH_take (i := 10) (v := ?_) rfl (by kernel_rfl) (by kernel_rfl) (by kernel_rfl) (fun _ _ _ h => h) (Or.inl ⟨by kernel_rfl, ?_⟩) (by assumption) ?_
          rotate_left
          · (intro wz hSw; (try dsimp only at hSw); go_simp; (try with_reducible rfl))
          try simp only [List.getElem_toArray, List.getElem_cons_succ, List.getElem_cons_zero, Act.put, List.setIfInBounds_toArray, List.set_cons_zero, List.set_cons_succ]
          refine wpAnyH_take (i := 11) (v := ?_) rfl (by kernel_rfl) (by kernel_rfl) (by kernel_rfl) (fun _ _ _ h => h) (Or.inl ⟨by kernel_rfl, ?_⟩) (by assumption) ?_
          rotate_left
          · (intro wz hSw; (try dsimp only at hSw); go_simp; (try with_reducible rfl))
          try simp only [List.getElem_toArray, List.getElem_cons_succ, List.getElem_cons_zero, Act.put, List.setIfInBounds_toArray, List.set_cons_zero, List.set_cons_succ]
          refine wpAnyH_take (i := 12) (v := ?_) rfl (by kernel_rfl) (by kernel_rfl) (by kernel_rfl) (fun _ _ _ h => h) (Or.inl ⟨by kernel_rfl, ?_⟩) (by assumption) ?_
          rotate_left
          · (intro wz hSw; (try dsimp only at hSw); go_simp; (try with_reducible rfl))
          try simp only [List.getElem_toArray, List.getElem_cons_succ, List.getElem_cons_zero, Act.put, List.setIfInBounds_toArray, List.set_cons_zero, List.set_cons_succ]
          refine wpAnyH_take (i := 13) (v := ?_) rfl (by kernel_rfl) (by kernel_rfl) (by kernel_rfl) (fun _ _ _ h => h) (Or.inl ⟨by kernel_rfl, ?_⟩) (by assumption) ?_
          rotate_left
          · (intro wz hSw; (try dsimp only at hSw); go_simp; (try with_reducible rfl))
          try simp only [List.getElem_toArray, List.getElem_cons_succ, List.getElem_cons_zero, Act.put, List.setIfInBounds_toArray, List.set_cons_zero, List.set_cons_succ]
          refine wpAnyH_take (i := 14) (v := ?_) rfl (by kernel_rfl) (by kernel_rfl) (by kernel_rfl) (fun _ _ _ h => h) (Or.inl ⟨by kernel_rfl, ?_⟩) (by assumption) ?_
          rotate_left
          · (intro wz hSw; (try dsimp only at hSw); go_simp; (try with_reducible rfl))
          try simp only [List.getElem_toArray, List.getElem_cons_succ, List.getElem_cons_zero, Act.put, List.setIfInBounds_toArray, List.set_cons_zero, List.set_cons_succ]
          refine wpAnyH_take (i := 15) (v := ?_) rfl (by kernel_rfl) (by kernel_rfl) (by kernel_rfl) (fun _ _ _ h => h) (Or.inl ⟨by kernel_rfl, ?_⟩) (by assumption) ?_
          rotate_left
          · (intro wz hSw; (try dsimp only at hSw); go_simp; (try with_reducible rfl))
          try simp only [List.getElem_toArray, List.getElem_cons_succ, List.getElem_cons_zero, Act.put, List.setIfInBounds_toArray, List.set_cons_zero, List.set_cons_succ]
          refine wpAnyH_take (i := 16) (v := ?_) rfl (by kernel_rfl) (by kernel_rfl) (by kernel_rfl) (fun _ _ _ h => h) (Or.inl ⟨by kernel_rfl, ?_⟩) (by assumption) ?_
          rotate_left
          · (intro wz hSw; (try dsimp only at hSw); go_simp; (try with_reducible rfl))
          try simp only [List.getElem_toArray, List.getElem_cons_succ, List.getElem_cons_zero, Act.put, List.setIfInBounds_toArray, List.set_cons_zero, List.set_cons_succ]
          refine wpAnyH_ready (rs := [17]) (by kernel_rfl) (by simp) ?_
          refine AllReadyH.cons rfl (fun K hK => ?_) AllReadyH.nil
          go_simp
          (go_at_call 79; refine (kS _).mono ?_; rintro e w2 ⟨rfl, rfl⟩)
          (try go_wp2_with fail)
          refine hK.out _ _ ?_ (fun hHeld => ?_)
          · (try dsimp only)
            (first | assumption | (go_keep; done) | exact held_upC (by assumption) (by assumption) (Nat.le_refl _) rfl | exact ⟨by assumption, by assumption, by assumption, by assumption, by assumption, by assumption, by assumption, by assumption, Below.drew (by assumption), Below.drew (by assumption)⟩)
          clear hK K
          try simp only [List.getElem_toArray, List.getElem_cons_succ, List.getElem_cons_zero, Act.put, List.setIfInBounds_toArray, List.set_cons_zero, List.set_cons_succ]
          refine wpAnyH_ready (rs := [18]) (by kernel_rfl) (by simp) ?_
          refine AllReadyH.cons rfl (fun K hK => ?_) AllReadyH.nil
          go_simp
          (go_at_call 78; refine (kI _ (by go_split_ands; assumption)).mono ?_; rintro e w3 ⟨rfl, hb3⟩)
          (try go_wp2_with fail)
          refine hK.out _ _ ?_ (fun hHeld => ?_)
          · (try dsimp only)
            (first | assumption | (go_keep; done) | exact held_upC (by assumption) (by assumption) (Nat.le_refl _) rfl | exact ⟨by assumption, by assumption, by assumption, by assumption, by assumption, by assumption, by assumption, by assumption, Below.drew (by assumption), Below.drew (by assumption)⟩)
          clear hK K
          try simp only [List.getElem_toArray, List.getElem_cons_succ, List.getElem_cons_zero, Act.put, List.setIfInBounds_toArray, List.set_cons_zero, List.set_cons_succ]
          refine wpAnyH_take (i := 19) (v := ?_) rfl (by kernel_rfl) (by kernel_rfl) (by kernel_rfl) (fun _ _ _ h => h) (Or.inl ⟨by kernel_rfl, ?_⟩) (by assumption) ?_
          rotate_left
          · (intro wz hSw; (try dsimp only at hSw); go_simp; (try with_reducible rfl))
          try simp only [List.getElem_toArray, List.getElem_cons_succ, List.getElem_cons_zero, Act.put, List.setIfInBounds_toArray, List.set_cons_zero, List.set_cons_succ]
          refine wpAnyH_done (by kernel_rfl) ?_ _
          go_wp2_with fail
          go_roundw
          case rel => exact ⟨i + 1, by omega, by go_num, HZ, B_a.below (by first | assumption | (go_split_ands; assumption)), hb9.trans ((by first | assumption | (go_split_ands; assumption) : Below wr.heap.size wr _).mono hb9.size), by first | assumption | (go_split_ands; assumption)⟩
          case measure => simp [intOf]; omega
    · obtain rfl : i = l.length := by omega
      have HW := Hid.mk_ (show accB x = (shelfOkB x && ((l.length : Int) == (tallyP x.Base).getD 4 0)) by rw [HV.out, show l.all (accAt x.Base) = true by have a := HR.out; rwa [List.take_length] at a]; simp)
      have q_a_0 := B_a.cell 0 _ rfl
      have q_a_1 := B_a.cell 1 _ rfl
      have q_a_2 := B_a.cell 2 _ rfl
      have q_a_3 := B_a.cell 3 _ rfl
      have q_a_4 := B_a.cell 4 _ rfl
      have q_a_5 := B_a.cell 5 _ rfl
      have q_a_6 := B_a.cell 6 _ rfl
      have q_a_7 := B_a.cell 7 _ rfl
      have q_a_8 := B_a.cell 8 _ rfl
      have q_a_9 := B_a.cell 9 _ rfl
      have q_a_10 := B_a.cell 10 _ rfl
      have q_a_11 := B_a.cell 11 _ rfl
      have q_a_12 := B_a.cell 12 _ rfl
      go_wp2_with fail
      refine (kB _ hB).mono ?_
      generalize shelfOkB x = c0 at HW
      rintro e w2 ⟨rfl, hb⟩
      replace B_a := B_a.below hb
      replace hB := hB.trans (hb.mono hB.size)
      clear hb kB q_a_0 q_a_1 q_a_2 q_a_3 q_a_4 q_a_5 q_a_6 q_a_7 q_a_8 q_a_9 q_a_10 q_a_11 q_a_12
      cases c0 with
      | false =>
        go_wp2_with fail
        go_ret
        exact ⟨ret_bool HW.out.symm, hB⟩
      | true =>
        have q_a_0 := B_a.cell 0 _ rfl
        have q_a_1 := B_a.cell 1 _ rfl
        have q_a_2 := B_a.cell 2 _ rfl
        have q_a_3 := B_a.cell 3 _ rfl
        have q_a_4 := B_a.cell 4 _ rfl
        have q_a_5 := B_a.cell 5 _ rfl
        have q_a_6 := B_a.cell 6 _ rfl
        have q_a_7 := B_a.cell 7 _ rfl
        have q_a_8 := B_a.cell 8 _ rfl
        have q_a_9 := B_a.cell 9 _ rfl
        have q_a_10 := B_a.cell 10 _ rfl
        have q_a_11 := B_a.cell 11 _ rfl
        have q_a_12 := B_a.cell 12 _ rfl
        go_wp2_with fail
        refine (kT _ hB).mono ?_
        rintro e w3 ⟨v2, rfl, ho2, _, hb⟩
        replace hB := hB.trans (hb.mono hB.size)
        clear hb kT q_a_0 q_a_1 q_a_2 q_a_3 q_a_4 q_a_5 q_a_6 q_a_7 q_a_8 q_a_9 q_a_10 q_a_11 q_a_12 B_a z_a
        obtain ⟨g, off, cap', he, hg, hl1, hl2, hc⟩ := ho2.rd'.at_ (tally_get x.Base)
        subst he
        have p4 := hc 0 _ rfl
        simp only [FI, Nat.mul_one, Nat.add_zero] at p4
        rw [tally_len x.Base] at hl1 ⊢
        clear hc ho2
        generalize (tallyP x.Base).getD 4 0 = tv at *
        go_wp2_with fail
        go_ret
        exact ⟨ret_bool (by rw [HW.out, Bool.true_and, Bool.eq_iff_iff, beq_iff_eq, beq_iff_eq]; exact eq_comm), hB⟩
end Go.Proofs.YtkldapdpaldbgaaGreat
namespace Go.Proofs.YtkldapdpaldbgaaGreat
open Go.RowKit
theorem up2 {w1 w2 : World} {o : Obj} {g i : Nat} {u : Value} (hb : Below (w1.alloc o).heap.size (w1.alloc o) w2) (hg : g < w1.heap.size) (h : w1.cell? ⟨g, i, none⟩ = some u) : w2.cell? ⟨g, i, none⟩ = some u := cell_up hb (by simp; omega) ((cell_old w1 o g i hg).trans h)

theorem below_step {B : Nat} {w0 w w' : World} {o : Obj} (hB : Below B w0 w) (hb : Below (w.alloc o).heap.size (w.alloc o) w') (h : B ≤ w.heap.size) : Below B w0 w' := (hB.alloc h o).trans (hb.mono (by simp; omega))
theorem below_step0 {B : Nat} {w0 w w' : World} (hB : Below B w0 w) (hb : Below w.heap.size w w') (h : B ≤ w.heap.size) : Below B w0 w' := hB.trans (hb.mono h)
theorem new_cell {w w' : World} {cs : Array Value} {t : TypeId} {j : Nat} {v : Value} (hb : Below (w.alloc (.cells cs t)).heap.size (w.alloc (.cells cs t)) w') (h : cs[j]? = some v) : w'.cell? ⟨w.heap.size, j, none⟩ = some v := by
  refine cell_up hb (by simp) ?_
  rw [cell_of_row _ _ _ _ _ _ (heap_alloc_new w _)]
  exact h
theorem OwL.step {α : Type} {T : FT α} {e : TypeId} {w w' : World} {o : Obj} {v : Value} {l : List α} (h : OwL T e w v l) (hb : Below (w.alloc o).heap.size (w.alloc o) w') : OwL T e w' v l := (h.alloc_ o).keep (fun g hg => hb.block g (foot_lt (h.alloc_ o) g (mem_foot1.2 hg)))
theorem OwL.step0 {α : Type} {T : FT α} {e : TypeId} {w w' : World} {v : Value} {l : List α} (h : OwL T e w v l) (hb : Below w.heap.size w w') : OwL T e w' v l := h.keep (fun g hg => hb.block g (foot_lt h g (mem_foot1.2 hg)))
theorem OwLL.step {α : Type} {T : FT α} {e E : TypeId} {w w' : World} {o : Obj} {v : Value} {s : List SV} {l : List (List α)} (h : OwLL T e E w v s l) (hb : Below (w.alloc o).heap.size (w.alloc o) w') : OwLL T e E w' v s l := (h.alloc_ o).keep (fun g hg => hb.block g ((h.alloc_ o).lt g hg))
theorem OwLL.step0 {α : Type} {T : FT α} {e E : TypeId} {w w' : World} {v : Value} {s : List SV} {l : List (List α)} (h : OwLL T e E w v s l) (hb : Below w.heap.size w w') : OwLL T e E w' v s l := h.keep (fun g hg => hb.block g (h.lt g hg))

theorem undrew {w w' : World} (hb : Below w.drew.heap.size w.drew w') : Below w.heap.size w w' := ⟨hb.os, hb.tape, hb.output, hb.size, hb.block⟩
theorem fcdrew {w : World} {F : List Nat} (h : ∀ g ∈ F, w.drew.heap.size ≤ g) : ∀ g ∈ F, w.heap.size ≤ g := h
theorem lt_step {w w' : World} {o : Obj} {a : Nat} (z : a < w.heap.size) (hb : Below (w.alloc o).heap.size (w.alloc o) w') : a < w'.heap.size := by
  have := hb.size
  simp at this
  omega
theorem lt_step0 {w w' : World} {a : Nat} (z : a < w.heap.size) (hb : Below w.heap.size w w') : a < w'.heap.size := Nat.lt_of_lt_of_le z hb.size
theorem new_lt {w w' : World} {o : Obj} (hb : Below (w.alloc o).heap.size (w.alloc o) w') : w.heap.size < w'.heap.size := by
  have := hb.size
  simp at this
  omega

theorem OwHeap.alloc_ {w : World} {H : HHeap} {x : Heap} (h : OwHeap w H x) (o : Obj) : OwHeap (w.alloc o) H x := h.keep fun g hg => Below.heap_alloc w o g (h.lt g hg)
theorem OwHeap.step {w w' : World} {o : Obj} {H : HHeap} {x : Heap} (h : OwHeap w H x) (hb : Below (w.alloc o).heap.size (w.alloc o) w') : OwHeap w' H x := (h.alloc_ o).keep (fun g hg => hb.block g ((h.alloc_ o).lt g hg))
theorem OwHeap.step0 {w w' : World} {H : HHeap} {x : Heap} (h : OwHeap w H x) (hb : Below w.heap.size w w') : OwHeap w' H x := h.keep (fun g hg => hb.block g (h.lt g hg))

theorem OwLists.alloc_ {w : World} {H : HLists} {x : Lists} (h : OwLists w H x) (o : Obj) : OwLists (w.alloc o) H x := h.keep fun g hg => Below.heap_alloc w o g (h.lt g hg)
theorem OwLists.step {w w' : World} {o : Obj} {H : HLists} {x : Lists} (h : OwLists w H x) (hb : Below (w.alloc o).heap.size (w.alloc o) w') : OwLists w' H x := (h.alloc_ o).keep (fun g hg => hb.block g ((h.alloc_ o).lt g hg))
theorem OwLists.step0 {w w' : World} {H : HLists} {x : Lists} (h : OwLists w H x) (hb : Below w.heap.size w w') : OwLists w' H x := h.keep (fun g hg => hb.block g (h.lt g hg))

theorem OwMem.alloc_ {w : World} {H : HMem} {x : Mem} (h : OwMem w H x) (o : Obj) : OwMem (w.alloc o) H x := h.keep fun g hg => Below.heap_alloc w o g (h.lt g hg)
theorem OwMem.step {w w' : World} {o : Obj} {H : HMem} {x : Mem} (h : OwMem w H x) (hb : Below (w.alloc o).heap.size (w.alloc o) w') : OwMem w' H x := (h.alloc_ o).keep (fun g hg => hb.block g ((h.alloc_ o).lt g hg))
theorem OwMem.step0 {w w' : World} {H : HMem} {x : Mem} (h : OwMem w H x) (hb : Below w.heap.size w w') : OwMem w' H x := h.keep (fun g hg => hb.block g (h.lt g hg))

theorem OwClock.alloc_ {w : World} {H : HClock} {x : Clock} (h : OwClock w H x) (o : Obj) : OwClock (w.alloc o) H x := h.keep fun g hg => Below.heap_alloc w o g (h.lt g hg)
theorem OwClock.step {w w' : World} {o : Obj} {H : HClock} {x : Clock} (h : OwClock w H x) (hb : Below (w.alloc o).heap.size (w.alloc o) w') : OwClock w' H x := (h.alloc_ o).keep (fun g hg => hb.block g ((h.alloc_ o).lt g hg))
theorem OwClock.step0 {w w' : World} {H : HClock} {x : Clock} (h : OwClock w H x) (hb : Below w.heap.size w w') : OwClock w' H x := h.keep (fun g hg => hb.block g (h.lt g hg))

theorem OwBase.alloc_ {w : World} {H : HBase} {x : Base} (h : OwBase w H x) (o : Obj) : OwBase (w.alloc o) H x := h.keep fun g hg => Below.heap_alloc w o g (h.lt g hg)
theorem OwBase.step {w w' : World} {o : Obj} {H : HBase} {x : Base} (h : OwBase w H x) (hb : Below (w.alloc o).heap.size (w.alloc o) w') : OwBase w' H x := (h.alloc_ o).keep (fun g hg => hb.block g ((h.alloc_ o).lt g hg))
theorem OwBase.step0 {w w' : World} {H : HBase} {x : Base} (h : OwBase w H x) (hb : Below w.heap.size w w') : OwBase w' H x := h.keep (fun g hg => hb.block g (h.lt g hg))

theorem OwShelf.alloc_ {w : World} {H : HShelf} {x : Shelf} (h : OwShelf w H x) (o : Obj) : OwShelf (w.alloc o) H x := h.keep fun g hg => Below.heap_alloc w o g (h.lt g hg)
theorem OwShelf.step {w w' : World} {o : Obj} {H : HShelf} {x : Shelf} (h : OwShelf w H x) (hb : Below (w.alloc o).heap.size (w.alloc o) w') : OwShelf w' H x := (h.alloc_ o).keep (fun g hg => hb.block g ((h.alloc_ o).lt g hg))
theorem OwShelf.step0 {w w' : World} {H : HShelf} {x : Shelf} (h : OwShelf w H x) (hb : Below w.heap.size w w') : OwShelf w' H x := h.keep (fun g hg => hb.block g (h.lt g hg))

theorem nMark_size_Heap (x : Heap) : nMarkHeap x ≤ sizeHeap x := Nat.le_refl _
theorem nMark_size_Lists (x : Lists) : nMarkLists x ≤ sizeLists x := Nat.add_le_add (Nat.le_add_left _ _) (Nat.le_add_left _ _)
theorem nMark_size_Mem (x : Mem) : nMarkMem x ≤ sizeMem x := Nat.add_le_add (nMark_size_Heap _) (nMark_size_Lists _)
theorem size_mem_lists {x : Mem} {k : Nat} (h : sizeMem x ≤ k) : szLL x.Lists.Global ≤ k ∧ szLL x.Lists.Own ≤ k := by unfold sizeMem sizeLists at h; omega

theorem nMark_size_Base (x : Base) : nMarkBase x ≤ 4 * sizeBase x := by
  have h1 := nMark_size_Mem x.Mem
  have h2 : nMarkClock x.Clock = x.Clock.Pins.length * 4 := rfl
  have h3 : sizeClock x.Clock = x.Clock.Pins.length := rfl
  have h4 : totLL x.Limbo ≤ szLL x.Limbo := Nat.le_add_left _ _
  unfold nMarkBase sizeBase
  omega

theorem nMark_size_Shelf (x : Shelf) : nMarkShelf x ≤ 21 * sizeShelf x := by
  have h1 := nMark_size_Base x.Base
  have h4 : totLL x.Todo ≤ szLL x.Todo := Nat.le_add_left _ _
  unfold nMarkShelf sizeShelf
  omega

theorem size_base_lls {x : Base} {k : Nat} (h : sizeBase x ≤ k) : szLL x.Limbo ≤ k ∧ szLL x.Mem.Lists.Global ≤ k ∧ szLL x.Mem.Lists.Own ≤ k := by unfold sizeBase sizeMem sizeLists at h; omega

theorem size_shelf_base {x : Shelf} {k : Nat} (h : sizeShelf x ≤ k) : sizeBase x.Base ≤ k := by unfold sizeShelf at h; omega
end Go.Proofs.YtkldapdpaldbgaaGreat
namespace Go.Proofs.YtkldapdpaldbgaaGreat
open Go.RowKit

theorem Accounted_implS (w : World) (H : HShelf) (x : Shelf) (h : RdShelf w w.heap.size H x) (hs : sizeShelf x ≤ 1048576) :
    Calls Tryz.prog 26 #[.agg #[.slice H.Base.Mem.Heap.Bytes.a H.Base.Mem.Heap.Bytes.len H.Base.Mem.Heap.Bytes.cap, .slice H.Base.Mem.Heap.Class.a H.Base.Mem.Heap.Class.len H.Base.Mem.Heap.Class.cap, .slice H.Base.Mem.Lists.Global.a H.Base.Mem.Lists.Global.len H.Base.Mem.Lists.Global.cap, .slice H.Base.Mem.Lists.Own.a H.Base.Mem.Lists.Own.len H.Base.Mem.Lists.Own.cap, .int .i64 x.Base.Clock.Epoch, .slice H.Base.Clock.Pins.a H.Base.Clock.Pins.len H.Base.Clock.Pins.cap, .slice H.Base.Limbo.a H.Base.Limbo.len H.Base.Limbo.cap, .slice H.Base.Haz.a H.Base.Haz.len H.Base.Haz.cap, .slice H.Cells.a H.Cells.len H.Cells.cap, .slice H.Jobs.a H.Jobs.len H.Jobs.cap, .slice H.Todo.a H.Todo.len H.Todo.cap, .slice H.Log.a H.Log.len H.Log.cap, .int .i64 x.Serial]] w fun e w' => e = .returned (.bool (accB x)) ∧ Below w.heap.size w w' := Accounted_impl w H x  h (by have := size_base_lls (size_shelf_base hs); omega)

theorem Accounted_specS (w : World) (H : HShelf) (x : Shelf) (h : RdShelf w w.heap.size H x) (hs : sizeShelf x ≤ 1048576) :
    Calls Tryz.prog 25 #[.agg #[.slice H.Base.Mem.Heap.Bytes.a H.Base.Mem.Heap.Bytes.len H.Base.Mem.Heap.Bytes.cap, .slice H.Base.Mem.Heap.Class.a H.Base.Mem.Heap.Class.len H.Base.Mem.Heap.Class.cap, .slice H.Base.Mem.Lists.Global.a H.Base.Mem.Lists.Global.len H.Base.Mem.Lists.Global.cap, .slice H.Base.Mem.Lists.Own.a H.Base.Mem.Lists.Own.len H.Base.Mem.Lists.Own.cap, .int .i64 x.Base.Clock.Epoch, .slice H.Base.Clock.Pins.a H.Base.Clock.Pins.len H.Base.Clock.Pins.cap, .slice H.Base.Limbo.a H.Base.Limbo.len H.Base.Limbo.cap, .slice H.Base.Haz.a H.Base.Haz.len H.Base.Haz.cap, .slice H.Cells.a H.Cells.len H.Cells.cap, .slice H.Jobs.a H.Jobs.len H.Jobs.cap, .slice H.Todo.a H.Todo.len H.Todo.cap, .slice H.Log.a H.Log.len H.Log.cap, .int .i64 x.Serial]] w fun e w' => e = .returned (.bool (accB x)) ∧ Below w.heap.size w w' := Accounted_spec w H x  h (by have := size_base_lls (size_shelf_base hs); omega) (by have := size_base_lls (size_shelf_base hs); omega) (by have := size_base_lls (size_shelf_base hs); omega)

set_option maxRecDepth 100000 in
set_option maxHeartbeats 4000000 in
theorem FnExactAccounted_law (w : World) (K0 : HShelf) (x0 : Shelf) (h0 : RdShelf w w.heap.size K0 x0) :
    Calls Tryz.prog 5 #[.agg #[.slice K0.Base.Mem.Heap.Bytes.a K0.Base.Mem.Heap.Bytes.len K0.Base.Mem.Heap.Bytes.cap, .slice K0.Base.Mem.Heap.Class.a K0.Base.Mem.Heap.Class.len K0.Base.Mem.Heap.Class.cap, .slice K0.Base.Mem.Lists.Global.a K0.Base.Mem.Lists.Global.len K0.Base.Mem.Lists.Global.cap, .slice K0.Base.Mem.Lists.Own.a K0.Base.Mem.Lists.Own.len K0.Base.Mem.Lists.Own.cap, .int .i64 x0.Base.Clock.Epoch, .slice K0.Base.Clock.Pins.a K0.Base.Clock.Pins.len K0.Base.Clock.Pins.cap, .slice K0.Base.Limbo.a K0.Base.Limbo.len K0.Base.Limbo.cap, .slice K0.Base.Haz.a K0.Base.Haz.len K0.Base.Haz.cap, .slice K0.Cells.a K0.Cells.len K0.Cells.cap, .slice K0.Jobs.a K0.Jobs.len K0.Jobs.cap, .slice K0.Todo.a K0.Todo.len K0.Todo.cap, .slice K0.Log.a K0.Log.len K0.Log.cap, .int .i64 x0.Serial]] w fun e w' => e = .returned (.bool true) ∧ Below w.heap.size w w' := by
  by_cases hs0' : sizeShelf x0 ≤ 1048576
  case neg =>
    have HL := Hid.mk_ (leftOf_neg hs0')
    go_enter Tryz.func5, Tryz.ntmps5
    go_wp2_with fail
    have hB : Below w.heap.size w (w.alloc (.cells #[.slice K0.Base.Mem.Heap.Bytes.a K0.Base.Mem.Heap.Bytes.len K0.Base.Mem.Heap.Bytes.cap, .slice K0.Base.Mem.Heap.Class.a K0.Base.Mem.Heap.Class.len K0.Base.Mem.Heap.Class.cap, .slice K0.Base.Mem.Lists.Global.a K0.Base.Mem.Lists.Global.len K0.Base.Mem.Lists.Global.cap, .slice K0.Base.Mem.Lists.Own.a K0.Base.Mem.Lists.Own.len K0.Base.Mem.Lists.Own.cap, .int .i64 x0.Base.Clock.Epoch, .slice K0.Base.Clock.Pins.a K0.Base.Clock.Pins.len K0.Base.Clock.Pins.cap, .slice K0.Base.Limbo.a K0.Base.Limbo.len K0.Base.Limbo.cap, .slice K0.Base.Haz.a K0.Base.Haz.len K0.Base.Haz.cap, .slice K0.Cells.a K0.Cells.len K0.Cells.cap, .slice K0.Jobs.a K0.Jobs.len K0.Jobs.cap, .slice K0.Todo.a K0.Todo.len K0.Todo.cap, .slice K0.Log.a K0.Log.len K0.Log.cap, .int .i64 x0.Serial] 62)) := by repeat (first | exact Below.refl _ _ | refine Below.alloc ?_ (by simp <;> omega) _ | refine below_grow_of ?_ (by simp <;> omega) _ _ | refine Below.drew ?_ | refine below_drewN ?_ _)
    have hB0 := hB
    have b0_0 : ((w.alloc (.cells #[.slice K0.Base.Mem.Heap.Bytes.a K0.Base.Mem.Heap.Bytes.len K0.Base.Mem.Heap.Bytes.cap, .slice K0.Base.Mem.Heap.Class.a K0.Base.Mem.Heap.Class.len K0.Base.Mem.Heap.Class.cap, .slice K0.Base.Mem.Lists.Global.a K0.Base.Mem.Lists.Global.len K0.Base.Mem.Lists.Global.cap, .slice K0.Base.Mem.Lists.Own.a K0.Base.Mem.Lists.Own.len K0.Base.Mem.Lists.Own.cap, .int .i64 x0.Base.Clock.Epoch, .slice K0.Base.Clock.Pins.a K0.Base.Clock.Pins.len K0.Base.Clock.Pins.cap, .slice K0.Base.Limbo.a K0.Base.Limbo.len K0.Base.Limbo.cap, .slice K0.Base.Haz.a K0.Base.Haz.len K0.Base.Haz.cap, .slice K0.Cells.a K0.Cells.len K0.Cells.cap, .slice K0.Jobs.a K0.Jobs.len K0.Jobs.cap, .slice K0.Todo.a K0.Todo.len K0.Todo.cap, .slice K0.Log.a K0.Log.len K0.Log.cap, .int .i64 x0.Serial] 62))).cell? ⟨w.heap.size, 0, none⟩ = some (.slice K0.Base.Mem.Heap.Bytes.a K0.Base.Mem.Heap.Bytes.len K0.Base.Mem.Heap.Bytes.cap) := by simp [go_sem]
    have b0_1 : ((w.alloc (.cells #[.slice K0.Base.Mem.Heap.Bytes.a K0.Base.Mem.Heap.Bytes.len K0.Base.Mem.Heap.Bytes.cap, .slice K0.Base.Mem.Heap.Class.a K0.Base.Mem.Heap.Class.len K0.Base.Mem.Heap.Class.cap, .slice K0.Base.Mem.Lists.Global.a K0.Base.Mem.Lists.Global.len K0.Base.Mem.Lists.Global.cap, .slice K0.Base.Mem.Lists.Own.a K0.Base.Mem.Lists.Own.len K0.Base.Mem.Lists.Own.cap, .int .i64 x0.Base.Clock.Epoch, .slice K0.Base.Clock.Pins.a K0.Base.Clock.Pins.len K0.Base.Clock.Pins.cap, .slice K0.Base.Limbo.a K0.Base.Limbo.len K0.Base.Limbo.cap, .slice K0.Base.Haz.a K0.Base.Haz.len K0.Base.Haz.cap, .slice K0.Cells.a K0.Cells.len K0.Cells.cap, .slice K0.Jobs.a K0.Jobs.len K0.Jobs.cap, .slice K0.Todo.a K0.Todo.len K0.Todo.cap, .slice K0.Log.a K0.Log.len K0.Log.cap, .int .i64 x0.Serial] 62))).cell? ⟨w.heap.size, 1, none⟩ = some (.slice K0.Base.Mem.Heap.Class.a K0.Base.Mem.Heap.Class.len K0.Base.Mem.Heap.Class.cap) := by simp [go_sem]
    have b0_2 : ((w.alloc (.cells #[.slice K0.Base.Mem.Heap.Bytes.a K0.Base.Mem.Heap.Bytes.len K0.Base.Mem.Heap.Bytes.cap, .slice K0.Base.Mem.Heap.Class.a K0.Base.Mem.Heap.Class.len K0.Base.Mem.Heap.Class.cap, .slice K0.Base.Mem.Lists.Global.a K0.Base.Mem.Lists.Global.len K0.Base.Mem.Lists.Global.cap, .slice K0.Base.Mem.Lists.Own.a K0.Base.Mem.Lists.Own.len K0.Base.Mem.Lists.Own.cap, .int .i64 x0.Base.Clock.Epoch, .slice K0.Base.Clock.Pins.a K0.Base.Clock.Pins.len K0.Base.Clock.Pins.cap, .slice K0.Base.Limbo.a K0.Base.Limbo.len K0.Base.Limbo.cap, .slice K0.Base.Haz.a K0.Base.Haz.len K0.Base.Haz.cap, .slice K0.Cells.a K0.Cells.len K0.Cells.cap, .slice K0.Jobs.a K0.Jobs.len K0.Jobs.cap, .slice K0.Todo.a K0.Todo.len K0.Todo.cap, .slice K0.Log.a K0.Log.len K0.Log.cap, .int .i64 x0.Serial] 62))).cell? ⟨w.heap.size, 2, none⟩ = some (.slice K0.Base.Mem.Lists.Global.a K0.Base.Mem.Lists.Global.len K0.Base.Mem.Lists.Global.cap) := by simp [go_sem]
    have b0_3 : ((w.alloc (.cells #[.slice K0.Base.Mem.Heap.Bytes.a K0.Base.Mem.Heap.Bytes.len K0.Base.Mem.Heap.Bytes.cap, .slice K0.Base.Mem.Heap.Class.a K0.Base.Mem.Heap.Class.len K0.Base.Mem.Heap.Class.cap, .slice K0.Base.Mem.Lists.Global.a K0.Base.Mem.Lists.Global.len K0.Base.Mem.Lists.Global.cap, .slice K0.Base.Mem.Lists.Own.a K0.Base.Mem.Lists.Own.len K0.Base.Mem.Lists.Own.cap, .int .i64 x0.Base.Clock.Epoch, .slice K0.Base.Clock.Pins.a K0.Base.Clock.Pins.len K0.Base.Clock.Pins.cap, .slice K0.Base.Limbo.a K0.Base.Limbo.len K0.Base.Limbo.cap, .slice K0.Base.Haz.a K0.Base.Haz.len K0.Base.Haz.cap, .slice K0.Cells.a K0.Cells.len K0.Cells.cap, .slice K0.Jobs.a K0.Jobs.len K0.Jobs.cap, .slice K0.Todo.a K0.Todo.len K0.Todo.cap, .slice K0.Log.a K0.Log.len K0.Log.cap, .int .i64 x0.Serial] 62))).cell? ⟨w.heap.size, 3, none⟩ = some (.slice K0.Base.Mem.Lists.Own.a K0.Base.Mem.Lists.Own.len K0.Base.Mem.Lists.Own.cap) := by simp [go_sem]
    have b0_4 : ((w.alloc (.cells #[.slice K0.Base.Mem.Heap.Bytes.a K0.Base.Mem.Heap.Bytes.len K0.Base.Mem.Heap.Bytes.cap, .slice K0.Base.Mem.Heap.Class.a K0.Base.Mem.Heap.Class.len K0.Base.Mem.Heap.Class.cap, .slice K0.Base.Mem.Lists.Global.a K0.Base.Mem.Lists.Global.len K0.Base.Mem.Lists.Global.cap, .slice K0.Base.Mem.Lists.Own.a K0.Base.Mem.Lists.Own.len K0.Base.Mem.Lists.Own.cap, .int .i64 x0.Base.Clock.Epoch, .slice K0.Base.Clock.Pins.a K0.Base.Clock.Pins.len K0.Base.Clock.Pins.cap, .slice K0.Base.Limbo.a K0.Base.Limbo.len K0.Base.Limbo.cap, .slice K0.Base.Haz.a K0.Base.Haz.len K0.Base.Haz.cap, .slice K0.Cells.a K0.Cells.len K0.Cells.cap, .slice K0.Jobs.a K0.Jobs.len K0.Jobs.cap, .slice K0.Todo.a K0.Todo.len K0.Todo.cap, .slice K0.Log.a K0.Log.len K0.Log.cap, .int .i64 x0.Serial] 62))).cell? ⟨w.heap.size, 4, none⟩ = some (.int .i64 x0.Base.Clock.Epoch) := by simp [go_sem]
    have b0_5 : ((w.alloc (.cells #[.slice K0.Base.Mem.Heap.Bytes.a K0.Base.Mem.Heap.Bytes.len K0.Base.Mem.Heap.Bytes.cap, .slice K0.Base.Mem.Heap.Class.a K0.Base.Mem.Heap.Class.len K0.Base.Mem.Heap.Class.cap, .slice K0.Base.Mem.Lists.Global.a K0.Base.Mem.Lists.Global.len K0.Base.Mem.Lists.Global.cap, .slice K0.Base.Mem.Lists.Own.a K0.Base.Mem.Lists.Own.len K0.Base.Mem.Lists.Own.cap, .int .i64 x0.Base.Clock.Epoch, .slice K0.Base.Clock.Pins.a K0.Base.Clock.Pins.len K0.Base.Clock.Pins.cap, .slice K0.Base.Limbo.a K0.Base.Limbo.len K0.Base.Limbo.cap, .slice K0.Base.Haz.a K0.Base.Haz.len K0.Base.Haz.cap, .slice K0.Cells.a K0.Cells.len K0.Cells.cap, .slice K0.Jobs.a K0.Jobs.len K0.Jobs.cap, .slice K0.Todo.a K0.Todo.len K0.Todo.cap, .slice K0.Log.a K0.Log.len K0.Log.cap, .int .i64 x0.Serial] 62))).cell? ⟨w.heap.size, 5, none⟩ = some (.slice K0.Base.Clock.Pins.a K0.Base.Clock.Pins.len K0.Base.Clock.Pins.cap) := by simp [go_sem]
    have b0_6 : ((w.alloc (.cells #[.slice K0.Base.Mem.Heap.Bytes.a K0.Base.Mem.Heap.Bytes.len K0.Base.Mem.Heap.Bytes.cap, .slice K0.Base.Mem.Heap.Class.a K0.Base.Mem.Heap.Class.len K0.Base.Mem.Heap.Class.cap, .slice K0.Base.Mem.Lists.Global.a K0.Base.Mem.Lists.Global.len K0.Base.Mem.Lists.Global.cap, .slice K0.Base.Mem.Lists.Own.a K0.Base.Mem.Lists.Own.len K0.Base.Mem.Lists.Own.cap, .int .i64 x0.Base.Clock.Epoch, .slice K0.Base.Clock.Pins.a K0.Base.Clock.Pins.len K0.Base.Clock.Pins.cap, .slice K0.Base.Limbo.a K0.Base.Limbo.len K0.Base.Limbo.cap, .slice K0.Base.Haz.a K0.Base.Haz.len K0.Base.Haz.cap, .slice K0.Cells.a K0.Cells.len K0.Cells.cap, .slice K0.Jobs.a K0.Jobs.len K0.Jobs.cap, .slice K0.Todo.a K0.Todo.len K0.Todo.cap, .slice K0.Log.a K0.Log.len K0.Log.cap, .int .i64 x0.Serial] 62))).cell? ⟨w.heap.size, 6, none⟩ = some (.slice K0.Base.Limbo.a K0.Base.Limbo.len K0.Base.Limbo.cap) := by simp [go_sem]
    have b0_7 : ((w.alloc (.cells #[.slice K0.Base.Mem.Heap.Bytes.a K0.Base.Mem.Heap.Bytes.len K0.Base.Mem.Heap.Bytes.cap, .slice K0.Base.Mem.Heap.Class.a K0.Base.Mem.Heap.Class.len K0.Base.Mem.Heap.Class.cap, .slice K0.Base.Mem.Lists.Global.a K0.Base.Mem.Lists.Global.len K0.Base.Mem.Lists.Global.cap, .slice K0.Base.Mem.Lists.Own.a K0.Base.Mem.Lists.Own.len K0.Base.Mem.Lists.Own.cap, .int .i64 x0.Base.Clock.Epoch, .slice K0.Base.Clock.Pins.a K0.Base.Clock.Pins.len K0.Base.Clock.Pins.cap, .slice K0.Base.Limbo.a K0.Base.Limbo.len K0.Base.Limbo.cap, .slice K0.Base.Haz.a K0.Base.Haz.len K0.Base.Haz.cap, .slice K0.Cells.a K0.Cells.len K0.Cells.cap, .slice K0.Jobs.a K0.Jobs.len K0.Jobs.cap, .slice K0.Todo.a K0.Todo.len K0.Todo.cap, .slice K0.Log.a K0.Log.len K0.Log.cap, .int .i64 x0.Serial] 62))).cell? ⟨w.heap.size, 7, none⟩ = some (.slice K0.Base.Haz.a K0.Base.Haz.len K0.Base.Haz.cap) := by simp [go_sem]
    have b0_8 : ((w.alloc (.cells #[.slice K0.Base.Mem.Heap.Bytes.a K0.Base.Mem.Heap.Bytes.len K0.Base.Mem.Heap.Bytes.cap, .slice K0.Base.Mem.Heap.Class.a K0.Base.Mem.Heap.Class.len K0.Base.Mem.Heap.Class.cap, .slice K0.Base.Mem.Lists.Global.a K0.Base.Mem.Lists.Global.len K0.Base.Mem.Lists.Global.cap, .slice K0.Base.Mem.Lists.Own.a K0.Base.Mem.Lists.Own.len K0.Base.Mem.Lists.Own.cap, .int .i64 x0.Base.Clock.Epoch, .slice K0.Base.Clock.Pins.a K0.Base.Clock.Pins.len K0.Base.Clock.Pins.cap, .slice K0.Base.Limbo.a K0.Base.Limbo.len K0.Base.Limbo.cap, .slice K0.Base.Haz.a K0.Base.Haz.len K0.Base.Haz.cap, .slice K0.Cells.a K0.Cells.len K0.Cells.cap, .slice K0.Jobs.a K0.Jobs.len K0.Jobs.cap, .slice K0.Todo.a K0.Todo.len K0.Todo.cap, .slice K0.Log.a K0.Log.len K0.Log.cap, .int .i64 x0.Serial] 62))).cell? ⟨w.heap.size, 8, none⟩ = some (.slice K0.Cells.a K0.Cells.len K0.Cells.cap) := by simp [go_sem]
    have b0_9 : ((w.alloc (.cells #[.slice K0.Base.Mem.Heap.Bytes.a K0.Base.Mem.Heap.Bytes.len K0.Base.Mem.Heap.Bytes.cap, .slice K0.Base.Mem.Heap.Class.a K0.Base.Mem.Heap.Class.len K0.Base.Mem.Heap.Class.cap, .slice K0.Base.Mem.Lists.Global.a K0.Base.Mem.Lists.Global.len K0.Base.Mem.Lists.Global.cap, .slice K0.Base.Mem.Lists.Own.a K0.Base.Mem.Lists.Own.len K0.Base.Mem.Lists.Own.cap, .int .i64 x0.Base.Clock.Epoch, .slice K0.Base.Clock.Pins.a K0.Base.Clock.Pins.len K0.Base.Clock.Pins.cap, .slice K0.Base.Limbo.a K0.Base.Limbo.len K0.Base.Limbo.cap, .slice K0.Base.Haz.a K0.Base.Haz.len K0.Base.Haz.cap, .slice K0.Cells.a K0.Cells.len K0.Cells.cap, .slice K0.Jobs.a K0.Jobs.len K0.Jobs.cap, .slice K0.Todo.a K0.Todo.len K0.Todo.cap, .slice K0.Log.a K0.Log.len K0.Log.cap, .int .i64 x0.Serial] 62))).cell? ⟨w.heap.size, 9, none⟩ = some (.slice K0.Jobs.a K0.Jobs.len K0.Jobs.cap) := by simp [go_sem]
    have b0_10 : ((w.alloc (.cells #[.slice K0.Base.Mem.Heap.Bytes.a K0.Base.Mem.Heap.Bytes.len K0.Base.Mem.Heap.Bytes.cap, .slice K0.Base.Mem.Heap.Class.a K0.Base.Mem.Heap.Class.len K0.Base.Mem.Heap.Class.cap, .slice K0.Base.Mem.Lists.Global.a K0.Base.Mem.Lists.Global.len K0.Base.Mem.Lists.Global.cap, .slice K0.Base.Mem.Lists.Own.a K0.Base.Mem.Lists.Own.len K0.Base.Mem.Lists.Own.cap, .int .i64 x0.Base.Clock.Epoch, .slice K0.Base.Clock.Pins.a K0.Base.Clock.Pins.len K0.Base.Clock.Pins.cap, .slice K0.Base.Limbo.a K0.Base.Limbo.len K0.Base.Limbo.cap, .slice K0.Base.Haz.a K0.Base.Haz.len K0.Base.Haz.cap, .slice K0.Cells.a K0.Cells.len K0.Cells.cap, .slice K0.Jobs.a K0.Jobs.len K0.Jobs.cap, .slice K0.Todo.a K0.Todo.len K0.Todo.cap, .slice K0.Log.a K0.Log.len K0.Log.cap, .int .i64 x0.Serial] 62))).cell? ⟨w.heap.size, 10, none⟩ = some (.slice K0.Todo.a K0.Todo.len K0.Todo.cap) := by simp [go_sem]
    have b0_11 : ((w.alloc (.cells #[.slice K0.Base.Mem.Heap.Bytes.a K0.Base.Mem.Heap.Bytes.len K0.Base.Mem.Heap.Bytes.cap, .slice K0.Base.Mem.Heap.Class.a K0.Base.Mem.Heap.Class.len K0.Base.Mem.Heap.Class.cap, .slice K0.Base.Mem.Lists.Global.a K0.Base.Mem.Lists.Global.len K0.Base.Mem.Lists.Global.cap, .slice K0.Base.Mem.Lists.Own.a K0.Base.Mem.Lists.Own.len K0.Base.Mem.Lists.Own.cap, .int .i64 x0.Base.Clock.Epoch, .slice K0.Base.Clock.Pins.a K0.Base.Clock.Pins.len K0.Base.Clock.Pins.cap, .slice K0.Base.Limbo.a K0.Base.Limbo.len K0.Base.Limbo.cap, .slice K0.Base.Haz.a K0.Base.Haz.len K0.Base.Haz.cap, .slice K0.Cells.a K0.Cells.len K0.Cells.cap, .slice K0.Jobs.a K0.Jobs.len K0.Jobs.cap, .slice K0.Todo.a K0.Todo.len K0.Todo.cap, .slice K0.Log.a K0.Log.len K0.Log.cap, .int .i64 x0.Serial] 62))).cell? ⟨w.heap.size, 11, none⟩ = some (.slice K0.Log.a K0.Log.len K0.Log.cap) := by simp [go_sem]
    have b0_12 : ((w.alloc (.cells #[.slice K0.Base.Mem.Heap.Bytes.a K0.Base.Mem.Heap.Bytes.len K0.Base.Mem.Heap.Bytes.cap, .slice K0.Base.Mem.Heap.Class.a K0.Base.Mem.Heap.Class.len K0.Base.Mem.Heap.Class.cap, .slice K0.Base.Mem.Lists.Global.a K0.Base.Mem.Lists.Global.len K0.Base.Mem.Lists.Global.cap, .slice K0.Base.Mem.Lists.Own.a K0.Base.Mem.Lists.Own.len K0.Base.Mem.Lists.Own.cap, .int .i64 x0.Base.Clock.Epoch, .slice K0.Base.Clock.Pins.a K0.Base.Clock.Pins.len K0.Base.Clock.Pins.cap, .slice K0.Base.Limbo.a K0.Base.Limbo.len K0.Base.Limbo.cap, .slice K0.Base.Haz.a K0.Base.Haz.len K0.Base.Haz.cap, .slice K0.Cells.a K0.Cells.len K0.Cells.cap, .slice K0.Jobs.a K0.Jobs.len K0.Jobs.cap, .slice K0.Todo.a K0.Todo.len K0.Todo.cap, .slice K0.Log.a K0.Log.len K0.Log.cap, .int .i64 x0.Serial] 62))).cell? ⟨w.heap.size, 12, none⟩ = some (.int .i64 x0.Serial) := by simp [go_sem]
    have z0 : w.heap.size < ((w.alloc (.cells #[.slice K0.Base.Mem.Heap.Bytes.a K0.Base.Mem.Heap.Bytes.len K0.Base.Mem.Heap.Bytes.cap, .slice K0.Base.Mem.Heap.Class.a K0.Base.Mem.Heap.Class.len K0.Base.Mem.Heap.Class.cap, .slice K0.Base.Mem.Lists.Global.a K0.Base.Mem.Lists.Global.len K0.Base.Mem.Lists.Global.cap, .slice K0.Base.Mem.Lists.Own.a K0.Base.Mem.Lists.Own.len K0.Base.Mem.Lists.Own.cap, .int .i64 x0.Base.Clock.Epoch, .slice K0.Base.Clock.Pins.a K0.Base.Clock.Pins.len K0.Base.Clock.Pins.cap, .slice K0.Base.Limbo.a K0.Base.Limbo.len K0.Base.Limbo.cap, .slice K0.Base.Haz.a K0.Base.Haz.len K0.Base.Haz.cap, .slice K0.Cells.a K0.Cells.len K0.Cells.cap, .slice K0.Jobs.a K0.Jobs.len K0.Jobs.cap, .slice K0.Todo.a K0.Todo.len K0.Todo.cap, .slice K0.Log.a K0.Log.len K0.Log.cap, .int .i64 x0.Serial] 62))).heap.size := by simp <;> omega
    generalize hW : (w.alloc (.cells #[.slice K0.Base.Mem.Heap.Bytes.a K0.Base.Mem.Heap.Bytes.len K0.Base.Mem.Heap.Bytes.cap, .slice K0.Base.Mem.Heap.Class.a K0.Base.Mem.Heap.Class.len K0.Base.Mem.Heap.Class.cap, .slice K0.Base.Mem.Lists.Global.a K0.Base.Mem.Lists.Global.len K0.Base.Mem.Lists.Global.cap, .slice K0.Base.Mem.Lists.Own.a K0.Base.Mem.Lists.Own.len K0.Base.Mem.Lists.Own.cap, .int .i64 x0.Base.Clock.Epoch, .slice K0.Base.Clock.Pins.a K0.Base.Clock.Pins.len K0.Base.Clock.Pins.cap, .slice K0.Base.Limbo.a K0.Base.Limbo.len K0.Base.Limbo.cap, .slice K0.Base.Haz.a K0.Base.Haz.len K0.Base.Haz.cap, .slice K0.Cells.a K0.Cells.len K0.Cells.cap, .slice K0.Jobs.a K0.Jobs.len K0.Jobs.cap, .slice K0.Todo.a K0.Todo.len K0.Todo.cap, .slice K0.Log.a K0.Log.len K0.Log.cap, .int .i64 x0.Serial] 62)) = w0 at hB hB0 b0_0 b0_1 b0_2 b0_3 b0_4 b0_5 b0_6 b0_7 b0_8 b0_9 b0_10 b0_11 b0_12 z0 ⊢
    clear hW
    have zz0 := z0
    refine (szShelf_ct _ K0 x0 1048576 (rdShelf_up h0 hB) (by omega)).mono ?_
    rw [HL.out]
    rintro e w1 ⟨rfl, hb⟩
    replace hB := below_step0 hB hb hB.size
    have sz := hb.size
    replace b0_0 := cell_up hb z0 b0_0
    replace b0_1 := cell_up hb z0 b0_1
    replace b0_2 := cell_up hb z0 b0_2
    replace b0_3 := cell_up hb z0 b0_3
    replace b0_4 := cell_up hb z0 b0_4
    replace b0_5 := cell_up hb z0 b0_5
    replace b0_6 := cell_up hb z0 b0_6
    replace b0_7 := cell_up hb z0 b0_7
    replace b0_8 := cell_up hb z0 b0_8
    replace b0_9 := cell_up hb z0 b0_9
    replace b0_10 := cell_up hb z0 b0_10
    replace b0_11 := cell_up hb z0 b0_11
    replace b0_12 := cell_up hb z0 b0_12
    replace z0 := lt_step0 z0 hb
    clear hb
    go_wp2_with fail
    go_ret
    exact ⟨rfl, hB⟩
  obtain ⟨r0, HL0, hr0⟩ : ∃ r : Nat, Hid (leftOf 1048576 (sizeShelf x0) = (r : Int)) ∧ r + sizeShelf x0 = 1048576 := ⟨1048576 - sizeShelf x0, Hid.mk_ (by rw [leftOf_pos hs0']; omega), by omega⟩
  have hn0 := nMark_size_Shelf x0
  clear hs0'
  go_enter Tryz.func5, Tryz.ntmps5
  go_wp2_with fail
  have hB : Below w.heap.size w (w.alloc (.cells #[.slice K0.Base.Mem.Heap.Bytes.a K0.Base.Mem.Heap.Bytes.len K0.Base.Mem.Heap.Bytes.cap, .slice K0.Base.Mem.Heap.Class.a K0.Base.Mem.Heap.Class.len K0.Base.Mem.Heap.Class.cap, .slice K0.Base.Mem.Lists.Global.a K0.Base.Mem.Lists.Global.len K0.Base.Mem.Lists.Global.cap, .slice K0.Base.Mem.Lists.Own.a K0.Base.Mem.Lists.Own.len K0.Base.Mem.Lists.Own.cap, .int .i64 x0.Base.Clock.Epoch, .slice K0.Base.Clock.Pins.a K0.Base.Clock.Pins.len K0.Base.Clock.Pins.cap, .slice K0.Base.Limbo.a K0.Base.Limbo.len K0.Base.Limbo.cap, .slice K0.Base.Haz.a K0.Base.Haz.len K0.Base.Haz.cap, .slice K0.Cells.a K0.Cells.len K0.Cells.cap, .slice K0.Jobs.a K0.Jobs.len K0.Jobs.cap, .slice K0.Todo.a K0.Todo.len K0.Todo.cap, .slice K0.Log.a K0.Log.len K0.Log.cap, .int .i64 x0.Serial] 62)) := by repeat (first | exact Below.refl _ _ | refine Below.alloc ?_ (by simp <;> omega) _ | refine below_grow_of ?_ (by simp <;> omega) _ _ | refine Below.drew ?_ | refine below_drewN ?_ _)
  have hB0 := hB
  have b0_0 : ((w.alloc (.cells #[.slice K0.Base.Mem.Heap.Bytes.a K0.Base.Mem.Heap.Bytes.len K0.Base.Mem.Heap.Bytes.cap, .slice K0.Base.Mem.Heap.Class.a K0.Base.Mem.Heap.Class.len K0.Base.Mem.Heap.Class.cap, .slice K0.Base.Mem.Lists.Global.a K0.Base.Mem.Lists.Global.len K0.Base.Mem.Lists.Global.cap, .slice K0.Base.Mem.Lists.Own.a K0.Base.Mem.Lists.Own.len K0.Base.Mem.Lists.Own.cap, .int .i64 x0.Base.Clock.Epoch, .slice K0.Base.Clock.Pins.a K0.Base.Clock.Pins.len K0.Base.Clock.Pins.cap, .slice K0.Base.Limbo.a K0.Base.Limbo.len K0.Base.Limbo.cap, .slice K0.Base.Haz.a K0.Base.Haz.len K0.Base.Haz.cap, .slice K0.Cells.a K0.Cells.len K0.Cells.cap, .slice K0.Jobs.a K0.Jobs.len K0.Jobs.cap, .slice K0.Todo.a K0.Todo.len K0.Todo.cap, .slice K0.Log.a K0.Log.len K0.Log.cap, .int .i64 x0.Serial] 62))).cell? ⟨w.heap.size, 0, none⟩ = some (.slice K0.Base.Mem.Heap.Bytes.a K0.Base.Mem.Heap.Bytes.len K0.Base.Mem.Heap.Bytes.cap) := by simp [go_sem]
  have b0_1 : ((w.alloc (.cells #[.slice K0.Base.Mem.Heap.Bytes.a K0.Base.Mem.Heap.Bytes.len K0.Base.Mem.Heap.Bytes.cap, .slice K0.Base.Mem.Heap.Class.a K0.Base.Mem.Heap.Class.len K0.Base.Mem.Heap.Class.cap, .slice K0.Base.Mem.Lists.Global.a K0.Base.Mem.Lists.Global.len K0.Base.Mem.Lists.Global.cap, .slice K0.Base.Mem.Lists.Own.a K0.Base.Mem.Lists.Own.len K0.Base.Mem.Lists.Own.cap, .int .i64 x0.Base.Clock.Epoch, .slice K0.Base.Clock.Pins.a K0.Base.Clock.Pins.len K0.Base.Clock.Pins.cap, .slice K0.Base.Limbo.a K0.Base.Limbo.len K0.Base.Limbo.cap, .slice K0.Base.Haz.a K0.Base.Haz.len K0.Base.Haz.cap, .slice K0.Cells.a K0.Cells.len K0.Cells.cap, .slice K0.Jobs.a K0.Jobs.len K0.Jobs.cap, .slice K0.Todo.a K0.Todo.len K0.Todo.cap, .slice K0.Log.a K0.Log.len K0.Log.cap, .int .i64 x0.Serial] 62))).cell? ⟨w.heap.size, 1, none⟩ = some (.slice K0.Base.Mem.Heap.Class.a K0.Base.Mem.Heap.Class.len K0.Base.Mem.Heap.Class.cap) := by simp [go_sem]
  have b0_2 : ((w.alloc (.cells #[.slice K0.Base.Mem.Heap.Bytes.a K0.Base.Mem.Heap.Bytes.len K0.Base.Mem.Heap.Bytes.cap, .slice K0.Base.Mem.Heap.Class.a K0.Base.Mem.Heap.Class.len K0.Base.Mem.Heap.Class.cap, .slice K0.Base.Mem.Lists.Global.a K0.Base.Mem.Lists.Global.len K0.Base.Mem.Lists.Global.cap, .slice K0.Base.Mem.Lists.Own.a K0.Base.Mem.Lists.Own.len K0.Base.Mem.Lists.Own.cap, .int .i64 x0.Base.Clock.Epoch, .slice K0.Base.Clock.Pins.a K0.Base.Clock.Pins.len K0.Base.Clock.Pins.cap, .slice K0.Base.Limbo.a K0.Base.Limbo.len K0.Base.Limbo.cap, .slice K0.Base.Haz.a K0.Base.Haz.len K0.Base.Haz.cap, .slice K0.Cells.a K0.Cells.len K0.Cells.cap, .slice K0.Jobs.a K0.Jobs.len K0.Jobs.cap, .slice K0.Todo.a K0.Todo.len K0.Todo.cap, .slice K0.Log.a K0.Log.len K0.Log.cap, .int .i64 x0.Serial] 62))).cell? ⟨w.heap.size, 2, none⟩ = some (.slice K0.Base.Mem.Lists.Global.a K0.Base.Mem.Lists.Global.len K0.Base.Mem.Lists.Global.cap) := by simp [go_sem]
  have b0_3 : ((w.alloc (.cells #[.slice K0.Base.Mem.Heap.Bytes.a K0.Base.Mem.Heap.Bytes.len K0.Base.Mem.Heap.Bytes.cap, .slice K0.Base.Mem.Heap.Class.a K0.Base.Mem.Heap.Class.len K0.Base.Mem.Heap.Class.cap, .slice K0.Base.Mem.Lists.Global.a K0.Base.Mem.Lists.Global.len K0.Base.Mem.Lists.Global.cap, .slice K0.Base.Mem.Lists.Own.a K0.Base.Mem.Lists.Own.len K0.Base.Mem.Lists.Own.cap, .int .i64 x0.Base.Clock.Epoch, .slice K0.Base.Clock.Pins.a K0.Base.Clock.Pins.len K0.Base.Clock.Pins.cap, .slice K0.Base.Limbo.a K0.Base.Limbo.len K0.Base.Limbo.cap, .slice K0.Base.Haz.a K0.Base.Haz.len K0.Base.Haz.cap, .slice K0.Cells.a K0.Cells.len K0.Cells.cap, .slice K0.Jobs.a K0.Jobs.len K0.Jobs.cap, .slice K0.Todo.a K0.Todo.len K0.Todo.cap, .slice K0.Log.a K0.Log.len K0.Log.cap, .int .i64 x0.Serial] 62))).cell? ⟨w.heap.size, 3, none⟩ = some (.slice K0.Base.Mem.Lists.Own.a K0.Base.Mem.Lists.Own.len K0.Base.Mem.Lists.Own.cap) := by simp [go_sem]
  have b0_4 : ((w.alloc (.cells #[.slice K0.Base.Mem.Heap.Bytes.a K0.Base.Mem.Heap.Bytes.len K0.Base.Mem.Heap.Bytes.cap, .slice K0.Base.Mem.Heap.Class.a K0.Base.Mem.Heap.Class.len K0.Base.Mem.Heap.Class.cap, .slice K0.Base.Mem.Lists.Global.a K0.Base.Mem.Lists.Global.len K0.Base.Mem.Lists.Global.cap, .slice K0.Base.Mem.Lists.Own.a K0.Base.Mem.Lists.Own.len K0.Base.Mem.Lists.Own.cap, .int .i64 x0.Base.Clock.Epoch, .slice K0.Base.Clock.Pins.a K0.Base.Clock.Pins.len K0.Base.Clock.Pins.cap, .slice K0.Base.Limbo.a K0.Base.Limbo.len K0.Base.Limbo.cap, .slice K0.Base.Haz.a K0.Base.Haz.len K0.Base.Haz.cap, .slice K0.Cells.a K0.Cells.len K0.Cells.cap, .slice K0.Jobs.a K0.Jobs.len K0.Jobs.cap, .slice K0.Todo.a K0.Todo.len K0.Todo.cap, .slice K0.Log.a K0.Log.len K0.Log.cap, .int .i64 x0.Serial] 62))).cell? ⟨w.heap.size, 4, none⟩ = some (.int .i64 x0.Base.Clock.Epoch) := by simp [go_sem]
  have b0_5 : ((w.alloc (.cells #[.slice K0.Base.Mem.Heap.Bytes.a K0.Base.Mem.Heap.Bytes.len K0.Base.Mem.Heap.Bytes.cap, .slice K0.Base.Mem.Heap.Class.a K0.Base.Mem.Heap.Class.len K0.Base.Mem.Heap.Class.cap, .slice K0.Base.Mem.Lists.Global.a K0.Base.Mem.Lists.Global.len K0.Base.Mem.Lists.Global.cap, .slice K0.Base.Mem.Lists.Own.a K0.Base.Mem.Lists.Own.len K0.Base.Mem.Lists.Own.cap, .int .i64 x0.Base.Clock.Epoch, .slice K0.Base.Clock.Pins.a K0.Base.Clock.Pins.len K0.Base.Clock.Pins.cap, .slice K0.Base.Limbo.a K0.Base.Limbo.len K0.Base.Limbo.cap, .slice K0.Base.Haz.a K0.Base.Haz.len K0.Base.Haz.cap, .slice K0.Cells.a K0.Cells.len K0.Cells.cap, .slice K0.Jobs.a K0.Jobs.len K0.Jobs.cap, .slice K0.Todo.a K0.Todo.len K0.Todo.cap, .slice K0.Log.a K0.Log.len K0.Log.cap, .int .i64 x0.Serial] 62))).cell? ⟨w.heap.size, 5, none⟩ = some (.slice K0.Base.Clock.Pins.a K0.Base.Clock.Pins.len K0.Base.Clock.Pins.cap) := by simp [go_sem]
  have b0_6 : ((w.alloc (.cells #[.slice K0.Base.Mem.Heap.Bytes.a K0.Base.Mem.Heap.Bytes.len K0.Base.Mem.Heap.Bytes.cap, .slice K0.Base.Mem.Heap.Class.a K0.Base.Mem.Heap.Class.len K0.Base.Mem.Heap.Class.cap, .slice K0.Base.Mem.Lists.Global.a K0.Base.Mem.Lists.Global.len K0.Base.Mem.Lists.Global.cap, .slice K0.Base.Mem.Lists.Own.a K0.Base.Mem.Lists.Own.len K0.Base.Mem.Lists.Own.cap, .int .i64 x0.Base.Clock.Epoch, .slice K0.Base.Clock.Pins.a K0.Base.Clock.Pins.len K0.Base.Clock.Pins.cap, .slice K0.Base.Limbo.a K0.Base.Limbo.len K0.Base.Limbo.cap, .slice K0.Base.Haz.a K0.Base.Haz.len K0.Base.Haz.cap, .slice K0.Cells.a K0.Cells.len K0.Cells.cap, .slice K0.Jobs.a K0.Jobs.len K0.Jobs.cap, .slice K0.Todo.a K0.Todo.len K0.Todo.cap, .slice K0.Log.a K0.Log.len K0.Log.cap, .int .i64 x0.Serial] 62))).cell? ⟨w.heap.size, 6, none⟩ = some (.slice K0.Base.Limbo.a K0.Base.Limbo.len K0.Base.Limbo.cap) := by simp [go_sem]
  have b0_7 : ((w.alloc (.cells #[.slice K0.Base.Mem.Heap.Bytes.a K0.Base.Mem.Heap.Bytes.len K0.Base.Mem.Heap.Bytes.cap, .slice K0.Base.Mem.Heap.Class.a K0.Base.Mem.Heap.Class.len K0.Base.Mem.Heap.Class.cap, .slice K0.Base.Mem.Lists.Global.a K0.Base.Mem.Lists.Global.len K0.Base.Mem.Lists.Global.cap, .slice K0.Base.Mem.Lists.Own.a K0.Base.Mem.Lists.Own.len K0.Base.Mem.Lists.Own.cap, .int .i64 x0.Base.Clock.Epoch, .slice K0.Base.Clock.Pins.a K0.Base.Clock.Pins.len K0.Base.Clock.Pins.cap, .slice K0.Base.Limbo.a K0.Base.Limbo.len K0.Base.Limbo.cap, .slice K0.Base.Haz.a K0.Base.Haz.len K0.Base.Haz.cap, .slice K0.Cells.a K0.Cells.len K0.Cells.cap, .slice K0.Jobs.a K0.Jobs.len K0.Jobs.cap, .slice K0.Todo.a K0.Todo.len K0.Todo.cap, .slice K0.Log.a K0.Log.len K0.Log.cap, .int .i64 x0.Serial] 62))).cell? ⟨w.heap.size, 7, none⟩ = some (.slice K0.Base.Haz.a K0.Base.Haz.len K0.Base.Haz.cap) := by simp [go_sem]
  have b0_8 : ((w.alloc (.cells #[.slice K0.Base.Mem.Heap.Bytes.a K0.Base.Mem.Heap.Bytes.len K0.Base.Mem.Heap.Bytes.cap, .slice K0.Base.Mem.Heap.Class.a K0.Base.Mem.Heap.Class.len K0.Base.Mem.Heap.Class.cap, .slice K0.Base.Mem.Lists.Global.a K0.Base.Mem.Lists.Global.len K0.Base.Mem.Lists.Global.cap, .slice K0.Base.Mem.Lists.Own.a K0.Base.Mem.Lists.Own.len K0.Base.Mem.Lists.Own.cap, .int .i64 x0.Base.Clock.Epoch, .slice K0.Base.Clock.Pins.a K0.Base.Clock.Pins.len K0.Base.Clock.Pins.cap, .slice K0.Base.Limbo.a K0.Base.Limbo.len K0.Base.Limbo.cap, .slice K0.Base.Haz.a K0.Base.Haz.len K0.Base.Haz.cap, .slice K0.Cells.a K0.Cells.len K0.Cells.cap, .slice K0.Jobs.a K0.Jobs.len K0.Jobs.cap, .slice K0.Todo.a K0.Todo.len K0.Todo.cap, .slice K0.Log.a K0.Log.len K0.Log.cap, .int .i64 x0.Serial] 62))).cell? ⟨w.heap.size, 8, none⟩ = some (.slice K0.Cells.a K0.Cells.len K0.Cells.cap) := by simp [go_sem]
  have b0_9 : ((w.alloc (.cells #[.slice K0.Base.Mem.Heap.Bytes.a K0.Base.Mem.Heap.Bytes.len K0.Base.Mem.Heap.Bytes.cap, .slice K0.Base.Mem.Heap.Class.a K0.Base.Mem.Heap.Class.len K0.Base.Mem.Heap.Class.cap, .slice K0.Base.Mem.Lists.Global.a K0.Base.Mem.Lists.Global.len K0.Base.Mem.Lists.Global.cap, .slice K0.Base.Mem.Lists.Own.a K0.Base.Mem.Lists.Own.len K0.Base.Mem.Lists.Own.cap, .int .i64 x0.Base.Clock.Epoch, .slice K0.Base.Clock.Pins.a K0.Base.Clock.Pins.len K0.Base.Clock.Pins.cap, .slice K0.Base.Limbo.a K0.Base.Limbo.len K0.Base.Limbo.cap, .slice K0.Base.Haz.a K0.Base.Haz.len K0.Base.Haz.cap, .slice K0.Cells.a K0.Cells.len K0.Cells.cap, .slice K0.Jobs.a K0.Jobs.len K0.Jobs.cap, .slice K0.Todo.a K0.Todo.len K0.Todo.cap, .slice K0.Log.a K0.Log.len K0.Log.cap, .int .i64 x0.Serial] 62))).cell? ⟨w.heap.size, 9, none⟩ = some (.slice K0.Jobs.a K0.Jobs.len K0.Jobs.cap) := by simp [go_sem]
  have b0_10 : ((w.alloc (.cells #[.slice K0.Base.Mem.Heap.Bytes.a K0.Base.Mem.Heap.Bytes.len K0.Base.Mem.Heap.Bytes.cap, .slice K0.Base.Mem.Heap.Class.a K0.Base.Mem.Heap.Class.len K0.Base.Mem.Heap.Class.cap, .slice K0.Base.Mem.Lists.Global.a K0.Base.Mem.Lists.Global.len K0.Base.Mem.Lists.Global.cap, .slice K0.Base.Mem.Lists.Own.a K0.Base.Mem.Lists.Own.len K0.Base.Mem.Lists.Own.cap, .int .i64 x0.Base.Clock.Epoch, .slice K0.Base.Clock.Pins.a K0.Base.Clock.Pins.len K0.Base.Clock.Pins.cap, .slice K0.Base.Limbo.a K0.Base.Limbo.len K0.Base.Limbo.cap, .slice K0.Base.Haz.a K0.Base.Haz.len K0.Base.Haz.cap, .slice K0.Cells.a K0.Cells.len K0.Cells.cap, .slice K0.Jobs.a K0.Jobs.len K0.Jobs.cap, .slice K0.Todo.a K0.Todo.len K0.Todo.cap, .slice K0.Log.a K0.Log.len K0.Log.cap, .int .i64 x0.Serial] 62))).cell? ⟨w.heap.size, 10, none⟩ = some (.slice K0.Todo.a K0.Todo.len K0.Todo.cap) := by simp [go_sem]
  have b0_11 : ((w.alloc (.cells #[.slice K0.Base.Mem.Heap.Bytes.a K0.Base.Mem.Heap.Bytes.len K0.Base.Mem.Heap.Bytes.cap, .slice K0.Base.Mem.Heap.Class.a K0.Base.Mem.Heap.Class.len K0.Base.Mem.Heap.Class.cap, .slice K0.Base.Mem.Lists.Global.a K0.Base.Mem.Lists.Global.len K0.Base.Mem.Lists.Global.cap, .slice K0.Base.Mem.Lists.Own.a K0.Base.Mem.Lists.Own.len K0.Base.Mem.Lists.Own.cap, .int .i64 x0.Base.Clock.Epoch, .slice K0.Base.Clock.Pins.a K0.Base.Clock.Pins.len K0.Base.Clock.Pins.cap, .slice K0.Base.Limbo.a K0.Base.Limbo.len K0.Base.Limbo.cap, .slice K0.Base.Haz.a K0.Base.Haz.len K0.Base.Haz.cap, .slice K0.Cells.a K0.Cells.len K0.Cells.cap, .slice K0.Jobs.a K0.Jobs.len K0.Jobs.cap, .slice K0.Todo.a K0.Todo.len K0.Todo.cap, .slice K0.Log.a K0.Log.len K0.Log.cap, .int .i64 x0.Serial] 62))).cell? ⟨w.heap.size, 11, none⟩ = some (.slice K0.Log.a K0.Log.len K0.Log.cap) := by simp [go_sem]
  have b0_12 : ((w.alloc (.cells #[.slice K0.Base.Mem.Heap.Bytes.a K0.Base.Mem.Heap.Bytes.len K0.Base.Mem.Heap.Bytes.cap, .slice K0.Base.Mem.Heap.Class.a K0.Base.Mem.Heap.Class.len K0.Base.Mem.Heap.Class.cap, .slice K0.Base.Mem.Lists.Global.a K0.Base.Mem.Lists.Global.len K0.Base.Mem.Lists.Global.cap, .slice K0.Base.Mem.Lists.Own.a K0.Base.Mem.Lists.Own.len K0.Base.Mem.Lists.Own.cap, .int .i64 x0.Base.Clock.Epoch, .slice K0.Base.Clock.Pins.a K0.Base.Clock.Pins.len K0.Base.Clock.Pins.cap, .slice K0.Base.Limbo.a K0.Base.Limbo.len K0.Base.Limbo.cap, .slice K0.Base.Haz.a K0.Base.Haz.len K0.Base.Haz.cap, .slice K0.Cells.a K0.Cells.len K0.Cells.cap, .slice K0.Jobs.a K0.Jobs.len K0.Jobs.cap, .slice K0.Todo.a K0.Todo.len K0.Todo.cap, .slice K0.Log.a K0.Log.len K0.Log.cap, .int .i64 x0.Serial] 62))).cell? ⟨w.heap.size, 12, none⟩ = some (.int .i64 x0.Serial) := by simp [go_sem]
  have z0 : w.heap.size < ((w.alloc (.cells #[.slice K0.Base.Mem.Heap.Bytes.a K0.Base.Mem.Heap.Bytes.len K0.Base.Mem.Heap.Bytes.cap, .slice K0.Base.Mem.Heap.Class.a K0.Base.Mem.Heap.Class.len K0.Base.Mem.Heap.Class.cap, .slice K0.Base.Mem.Lists.Global.a K0.Base.Mem.Lists.Global.len K0.Base.Mem.Lists.Global.cap, .slice K0.Base.Mem.Lists.Own.a K0.Base.Mem.Lists.Own.len K0.Base.Mem.Lists.Own.cap, .int .i64 x0.Base.Clock.Epoch, .slice K0.Base.Clock.Pins.a K0.Base.Clock.Pins.len K0.Base.Clock.Pins.cap, .slice K0.Base.Limbo.a K0.Base.Limbo.len K0.Base.Limbo.cap, .slice K0.Base.Haz.a K0.Base.Haz.len K0.Base.Haz.cap, .slice K0.Cells.a K0.Cells.len K0.Cells.cap, .slice K0.Jobs.a K0.Jobs.len K0.Jobs.cap, .slice K0.Todo.a K0.Todo.len K0.Todo.cap, .slice K0.Log.a K0.Log.len K0.Log.cap, .int .i64 x0.Serial] 62))).heap.size := by simp <;> omega
  generalize hW : (w.alloc (.cells #[.slice K0.Base.Mem.Heap.Bytes.a K0.Base.Mem.Heap.Bytes.len K0.Base.Mem.Heap.Bytes.cap, .slice K0.Base.Mem.Heap.Class.a K0.Base.Mem.Heap.Class.len K0.Base.Mem.Heap.Class.cap, .slice K0.Base.Mem.Lists.Global.a K0.Base.Mem.Lists.Global.len K0.Base.Mem.Lists.Global.cap, .slice K0.Base.Mem.Lists.Own.a K0.Base.Mem.Lists.Own.len K0.Base.Mem.Lists.Own.cap, .int .i64 x0.Base.Clock.Epoch, .slice K0.Base.Clock.Pins.a K0.Base.Clock.Pins.len K0.Base.Clock.Pins.cap, .slice K0.Base.Limbo.a K0.Base.Limbo.len K0.Base.Limbo.cap, .slice K0.Base.Haz.a K0.Base.Haz.len K0.Base.Haz.cap, .slice K0.Cells.a K0.Cells.len K0.Cells.cap, .slice K0.Jobs.a K0.Jobs.len K0.Jobs.cap, .slice K0.Todo.a K0.Todo.len K0.Todo.cap, .slice K0.Log.a K0.Log.len K0.Log.cap, .int .i64 x0.Serial] 62)) = w0 at hB hB0 b0_0 b0_1 b0_2 b0_3 b0_4 b0_5 b0_6 b0_7 b0_8 b0_9 b0_10 b0_11 b0_12 z0 ⊢
  clear hW
  have zz0 := z0
  refine (szShelf_ct _ K0 x0 1048576 (rdShelf_up h0 hB) (by omega)).mono ?_
  rw [HL0.out]
  rintro e w1 ⟨rfl, hb⟩
  replace hB := below_step0 hB hb hB.size
  have sz := hb.size
  replace b0_0 := cell_up hb z0 b0_0
  replace b0_1 := cell_up hb z0 b0_1
  replace b0_2 := cell_up hb z0 b0_2
  replace b0_3 := cell_up hb z0 b0_3
  replace b0_4 := cell_up hb z0 b0_4
  replace b0_5 := cell_up hb z0 b0_5
  replace b0_6 := cell_up hb z0 b0_6
  replace b0_7 := cell_up hb z0 b0_7
  replace b0_8 := cell_up hb z0 b0_8
  replace b0_9 := cell_up hb z0 b0_9
  replace b0_10 := cell_up hb z0 b0_10
  replace b0_11 := cell_up hb z0 b0_11
  replace b0_12 := cell_up hb z0 b0_12
  replace z0 := lt_step0 z0 hb
  clear hb
  go_wp2_with fail
  refine (toShelf_ct _ K0 x0 (rdShelf_up h0 hB) (by omega)).mono ?_
  rintro e w2 ⟨K_a0, rfl, o_a0, lb_a0, hb⟩
  replace hB := below_step0 hB hb hB.size
  have sz := hb.size
  replace b0_0 := cell_up hb z0 b0_0
  replace b0_1 := cell_up hb z0 b0_1
  replace b0_2 := cell_up hb z0 b0_2
  replace b0_3 := cell_up hb z0 b0_3
  replace b0_4 := cell_up hb z0 b0_4
  replace b0_5 := cell_up hb z0 b0_5
  replace b0_6 := cell_up hb z0 b0_6
  replace b0_7 := cell_up hb z0 b0_7
  replace b0_8 := cell_up hb z0 b0_8
  replace b0_9 := cell_up hb z0 b0_9
  replace b0_10 := cell_up hb z0 b0_10
  replace b0_11 := cell_up hb z0 b0_11
  replace b0_12 := cell_up hb z0 b0_12
  replace z0 := lt_step0 z0 hb
  clear hb
  have ub_a0 := o_a0.lt
  go_wp2_with fail
  refine (Accounted_specS _ _ x0   o_a0.rd' (by omega)).mono ?_
  rintro e w3 ⟨rfl, hb⟩
  replace hB := below_step0 hB hb hB.size
  have sz := hb.size
  replace b0_0 := cell_up hb z0 b0_0
  replace b0_1 := cell_up hb z0 b0_1
  replace b0_2 := cell_up hb z0 b0_2
  replace b0_3 := cell_up hb z0 b0_3
  replace b0_4 := cell_up hb z0 b0_4
  replace b0_5 := cell_up hb z0 b0_5
  replace b0_6 := cell_up hb z0 b0_6
  replace b0_7 := cell_up hb z0 b0_7
  replace b0_8 := cell_up hb z0 b0_8
  replace b0_9 := cell_up hb z0 b0_9
  replace b0_10 := cell_up hb z0 b0_10
  replace b0_11 := cell_up hb z0 b0_11
  replace b0_12 := cell_up hb z0 b0_12
  replace z0 := lt_step0 z0 hb
  replace o_a0 := o_a0.step0 hb
  clear hb
  go_wp2_with fail
  refine (toShelf_ct _ K0 x0 (rdShelf_up h0 hB) (by omega)).mono ?_
  rintro e w4 ⟨K_x0, rfl, o_x0, lb_x0, hb⟩
  replace hB := below_step0 hB hb hB.size
  have sz := hb.size
  replace b0_0 := cell_up hb z0 b0_0
  replace b0_1 := cell_up hb z0 b0_1
  replace b0_2 := cell_up hb z0 b0_2
  replace b0_3 := cell_up hb z0 b0_3
  replace b0_4 := cell_up hb z0 b0_4
  replace b0_5 := cell_up hb z0 b0_5
  replace b0_6 := cell_up hb z0 b0_6
  replace b0_7 := cell_up hb z0 b0_7
  replace b0_8 := cell_up hb z0 b0_8
  replace b0_9 := cell_up hb z0 b0_9
  replace b0_10 := cell_up hb z0 b0_10
  replace b0_11 := cell_up hb z0 b0_11
  replace b0_12 := cell_up hb z0 b0_12
  replace z0 := lt_step0 z0 hb
  replace o_a0 := o_a0.step0 hb
  clear hb
  have ub_x0 := o_x0.lt
  go_wp2_with fail
  refine (Accounted_implS _ _ x0   (o_x0.alloc_ _).rd' (by omega)).mono ?_
  rintro e w5 ⟨rfl, hb⟩
  replace hB := below_step hB hb hB.size
  have sz := hb.size
  simp only [World.size_alloc] at sz
  replace b0_0 := up2 hb z0 b0_0
  replace b0_1 := up2 hb z0 b0_1
  replace b0_2 := up2 hb z0 b0_2
  replace b0_3 := up2 hb z0 b0_3
  replace b0_4 := up2 hb z0 b0_4
  replace b0_5 := up2 hb z0 b0_5
  replace b0_6 := up2 hb z0 b0_6
  replace b0_7 := up2 hb z0 b0_7
  replace b0_8 := up2 hb z0 b0_8
  replace b0_9 := up2 hb z0 b0_9
  replace b0_10 := up2 hb z0 b0_10
  replace b0_11 := up2 hb z0 b0_11
  replace b0_12 := up2 hb z0 b0_12
  replace z0 := lt_step z0 hb
  have b1_0 := new_cell hb (j := 0) rfl
  have b1_1 := new_cell hb (j := 1) rfl
  have b1_2 := new_cell hb (j := 2) rfl
  have b1_3 := new_cell hb (j := 3) rfl
  have b1_4 := new_cell hb (j := 4) rfl
  have b1_5 := new_cell hb (j := 5) rfl
  have b1_6 := new_cell hb (j := 6) rfl
  have b1_7 := new_cell hb (j := 7) rfl
  have b1_8 := new_cell hb (j := 8) rfl
  have b1_9 := new_cell hb (j := 9) rfl
  have b1_10 := new_cell hb (j := 10) rfl
  have b1_11 := new_cell hb (j := 11) rfl
  have b1_12 := new_cell hb (j := 12) rfl
  have z1 := new_lt hb
  have zz1 := z1
  replace o_a0 := o_a0.step hb
  replace o_x0 := o_x0.step hb
  clear hb
  go_upto_region 10 with (fail)
  go_cut [26] from 22 to 26 (fun r wx => r = .bool false ∧ Below w.heap.size w wx ∧ wx.cell? ⟨w.heap.size, 0, none⟩ = some (.slice K0.Base.Mem.Heap.Bytes.a K0.Base.Mem.Heap.Bytes.len K0.Base.Mem.Heap.Bytes.cap) ∧ wx.cell? ⟨w.heap.size, 1, none⟩ = some (.slice K0.Base.Mem.Heap.Class.a K0.Base.Mem.Heap.Class.len K0.Base.Mem.Heap.Class.cap) ∧ wx.cell? ⟨w.heap.size, 2, none⟩ = some (.slice K0.Base.Mem.Lists.Global.a K0.Base.Mem.Lists.Global.len K0.Base.Mem.Lists.Global.cap) ∧ wx.cell? ⟨w.heap.size, 3, none⟩ = some (.slice K0.Base.Mem.Lists.Own.a K0.Base.Mem.Lists.Own.len K0.Base.Mem.Lists.Own.cap) ∧ wx.cell? ⟨w.heap.size, 4, none⟩ = some (.int .i64 x0.Base.Clock.Epoch) ∧ wx.cell? ⟨w.heap.size, 5, none⟩ = some (.slice K0.Base.Clock.Pins.a K0.Base.Clock.Pins.len K0.Base.Clock.Pins.cap) ∧ wx.cell? ⟨w.heap.size, 6, none⟩ = some (.slice K0.Base.Limbo.a K0.Base.Limbo.len K0.Base.Limbo.cap) ∧ wx.cell? ⟨w.heap.size, 7, none⟩ = some (.slice K0.Base.Haz.a K0.Base.Haz.len K0.Base.Haz.cap) ∧ wx.cell? ⟨w.heap.size, 8, none⟩ = some (.slice K0.Cells.a K0.Cells.len K0.Cells.cap) ∧ wx.cell? ⟨w.heap.size, 9, none⟩ = some (.slice K0.Jobs.a K0.Jobs.len K0.Jobs.cap) ∧ wx.cell? ⟨w.heap.size, 10, none⟩ = some (.slice K0.Todo.a K0.Todo.len K0.Todo.cap) ∧ wx.cell? ⟨w.heap.size, 11, none⟩ = some (.slice K0.Log.a K0.Log.len K0.Log.cap) ∧ wx.cell? ⟨w.heap.size, 12, none⟩ = some (.int .i64 x0.Serial) ∧ w.heap.size < wx.heap.size ∧ wx.cell? ⟨w4.heap.size, 0, none⟩ = some (.slice K_x0.Base.Mem.Heap.Bytes.a K_x0.Base.Mem.Heap.Bytes.len K_x0.Base.Mem.Heap.Bytes.cap) ∧ wx.cell? ⟨w4.heap.size, 1, none⟩ = some (.slice K_x0.Base.Mem.Heap.Class.a K_x0.Base.Mem.Heap.Class.len K_x0.Base.Mem.Heap.Class.cap) ∧ wx.cell? ⟨w4.heap.size, 2, none⟩ = some (.slice K_x0.Base.Mem.Lists.Global.a K_x0.Base.Mem.Lists.Global.len K_x0.Base.Mem.Lists.Global.cap) ∧ wx.cell? ⟨w4.heap.size, 3, none⟩ = some (.slice K_x0.Base.Mem.Lists.Own.a K_x0.Base.Mem.Lists.Own.len K_x0.Base.Mem.Lists.Own.cap) ∧ wx.cell? ⟨w4.heap.size, 4, none⟩ = some (.int .i64 x0.Base.Clock.Epoch) ∧ wx.cell? ⟨w4.heap.size, 5, none⟩ = some (.slice K_x0.Base.Clock.Pins.a K_x0.Base.Clock.Pins.len K_x0.Base.Clock.Pins.cap) ∧ wx.cell? ⟨w4.heap.size, 6, none⟩ = some (.slice K_x0.Base.Limbo.a K_x0.Base.Limbo.len K_x0.Base.Limbo.cap) ∧ wx.cell? ⟨w4.heap.size, 7, none⟩ = some (.slice K_x0.Base.Haz.a K_x0.Base.Haz.len K_x0.Base.Haz.cap) ∧ wx.cell? ⟨w4.heap.size, 8, none⟩ = some (.slice K_x0.Cells.a K_x0.Cells.len K_x0.Cells.cap) ∧ wx.cell? ⟨w4.heap.size, 9, none⟩ = some (.slice K_x0.Jobs.a K_x0.Jobs.len K_x0.Jobs.cap) ∧ wx.cell? ⟨w4.heap.size, 10, none⟩ = some (.slice K_x0.Todo.a K_x0.Todo.len K_x0.Todo.cap) ∧ wx.cell? ⟨w4.heap.size, 11, none⟩ = some (.slice K_x0.Log.a K_x0.Log.len K_x0.Log.cap) ∧ wx.cell? ⟨w4.heap.size, 12, none⟩ = some (.int .i64 x0.Serial) ∧ w4.heap.size < wx.heap.size ∧ OwShelf wx K_x0 x0)
  case first =>
    go_region_with (first | (go_at_call 22; (first | ((with_reducible refine (toShelf_ct _ K0 x0 (rdShelf_up h0 hB) (by omega)).mono ?_); rintro e wq ⟨K_c0, rfl, o_c0, lb_c0, hb⟩) | ((with_reducible refine (toShelf_ct _ K0 x0 (rdShelf_up h0 hB.drew) (by omega)).mono ?_); rintro e wq ⟨K_c0, rfl, o_c0, lb_c0, hb⟩; replace hb := undrew hb; replace lb_c0 := fcdrew lb_c0)); replace hB := below_step0 hB hb hB.size; have sz := hb.size; replace b0_0 := cell_up hb z0 b0_0; replace b0_1 := cell_up hb z0 b0_1; replace b0_2 := cell_up hb z0 b0_2; replace b0_3 := cell_up hb z0 b0_3; replace b0_4 := cell_up hb z0 b0_4; replace b0_5 := cell_up hb z0 b0_5; replace b0_6 := cell_up hb z0 b0_6; replace b0_7 := cell_up hb z0 b0_7; replace b0_8 := cell_up hb z0 b0_8; replace b0_9 := cell_up hb z0 b0_9; replace b0_10 := cell_up hb z0 b0_10; replace b0_11 := cell_up hb z0 b0_11; replace b0_12 := cell_up hb z0 b0_12; replace z0 := lt_step0 z0 hb; replace b1_0 := cell_up hb z1 b1_0; replace b1_1 := cell_up hb z1 b1_1; replace b1_2 := cell_up hb z1 b1_2; replace b1_3 := cell_up hb z1 b1_3; replace b1_4 := cell_up hb z1 b1_4; replace b1_5 := cell_up hb z1 b1_5; replace b1_6 := cell_up hb z1 b1_6; replace b1_7 := cell_up hb z1 b1_7; replace b1_8 := cell_up hb z1 b1_8; replace b1_9 := cell_up hb z1 b1_9; replace b1_10 := cell_up hb z1 b1_10; replace b1_11 := cell_up hb z1 b1_11; replace b1_12 := cell_up hb z1 b1_12; replace z1 := lt_step0 z1 hb; replace o_a0 := o_a0.step0 hb; replace o_x0 := o_x0.step0 hb; clear hb; have ub_c0 := o_c0.lt) | (go_at_call 24; (with_reducible refine (eqShelf_ct _ _ _ _ o_x0.rd' o_c0.rd' (by omega)).mono ?_); rintro e wq ⟨rfl, hb⟩; replace hB := below_step0 hB hb hB.size; have sz := hb.size; replace b0_0 := cell_up hb z0 b0_0; replace b0_1 := cell_up hb z0 b0_1; replace b0_2 := cell_up hb z0 b0_2; replace b0_3 := cell_up hb z0 b0_3; replace b0_4 := cell_up hb z0 b0_4; replace b0_5 := cell_up hb z0 b0_5; replace b0_6 := cell_up hb z0 b0_6; replace b0_7 := cell_up hb z0 b0_7; replace b0_8 := cell_up hb z0 b0_8; replace b0_9 := cell_up hb z0 b0_9; replace b0_10 := cell_up hb z0 b0_10; replace b0_11 := cell_up hb z0 b0_11; replace b0_12 := cell_up hb z0 b0_12; replace z0 := lt_step0 z0 hb; replace b1_0 := cell_up hb z1 b1_0; replace b1_1 := cell_up hb z1 b1_1; replace b1_2 := cell_up hb z1 b1_2; replace b1_3 := cell_up hb z1 b1_3; replace b1_4 := cell_up hb z1 b1_4; replace b1_5 := cell_up hb z1 b1_5; replace b1_6 := cell_up hb z1 b1_6; replace b1_7 := cell_up hb z1 b1_7; replace b1_8 := cell_up hb z1 b1_8; replace b1_9 := cell_up hb z1 b1_9; replace b1_10 := cell_up hb z1 b1_10; replace b1_11 := cell_up hb z1 b1_11; replace b1_12 := cell_up hb z1 b1_12; replace z1 := lt_step0 z1 hb; replace o_a0 := o_a0.step0 hb; replace o_x0 := o_x0.step0 hb; replace o_c0 := o_c0.step0 hb; clear hb))
    all_goals
      go_wp2_with fail
      go_meet
      exact ⟨rfl, hB, b0_0, b0_1, b0_2, b0_3, b0_4, b0_5, b0_6, b0_7, b0_8, b0_9, b0_10, b0_11, b0_12, z0, b1_0, b1_1, b1_2, b1_3, b1_4, b1_5, b1_6, b1_7, b1_8, b1_9, b1_10, b1_11, b1_12, z1, o_x0⟩
  case rest =>
    clear hB
    clear b0_0
    clear b0_1
    clear b0_2
    clear b0_3
    clear b0_4
    clear b0_5
    clear b0_6
    clear b0_7
    clear b0_8
    clear b0_9
    clear b0_10
    clear b0_11
    clear b0_12
    clear z0
    clear b1_0
    clear b1_1
    clear b1_2
    clear b1_3
    clear b1_4
    clear b1_5
    clear b1_6
    clear b1_7
    clear b1_8
    clear b1_9
    clear b1_10
    clear b1_11
    clear b1_12
    clear z1
    clear o_x0
    obtain ⟨rfl, hB, b0_0, b0_1, b0_2, b0_3, b0_4, b0_5, b0_6, b0_7, b0_8, b0_9, b0_10, b0_11, b0_12, z0, b1_0, b1_1, b1_2, b1_3, b1_4, b1_5, b1_6, b1_7, b1_8, b1_9, b1_10, b1_11, b1_12, z1, o_x0⟩ := hcut
    go_wp2_with fail
    go_ret
    exact ⟨rfl, hB⟩
end Go.Proofs.YtkldapdpaldbgaaGreat
