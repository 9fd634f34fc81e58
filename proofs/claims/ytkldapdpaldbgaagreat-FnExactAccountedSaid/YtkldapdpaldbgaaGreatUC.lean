/-
  BaseOk of the program: the contract. BaseOk of the reference: the contract.
-/
import Derived.Test.YtkldapdpaldbgaaGreatT
import Derived.Test.YtkldapdpaldbgaaGreatL
import Derived.Deep.QuietTactic
import Derived.BigQuiet
import Derived.Deep.LoopGhost
import Derived.Deep.RegionHeld3
import Derived.Test.YtkldapdpaldbgaaGreatN
import Derived.Test.YtkldapdpaldbgaaGreatA
import Derived.WalkSpells
import Derived.Laws.Cover3
import Derived.Test.YtkldapdpaldbgaaGreatBG
import Derived.Test.YtkldapdpaldbgaaGreatWB
import Derived.Test.YtkldapdpaldbgaaGreatUB
namespace Go.Proofs.YtkldapdpaldbgaaGreat
open Go.RowKit

def rowLiveB (x : Base) (r : LRow) : Bool := liveB x.Mem r.Handle && decide (r.Epoch ≤ x.Clock.Epoch)
def baseOkB (x : Base) : Bool := memOkB x.Mem && Clk.clockOkB x.Clock && Lim.limboOkB x.Limbo && Lim.hazOkB x.Haz && x.Limbo.all fun l => l.all (rowLiveB x)
theorem all_not_any_ {α : Type} (p : α → Bool) (l : List α) : l.all p = !(l.any fun x => !p x) := by
  induction l with
  | nil => rfl
  | cons x l ih => simp [ih]

set_option maxRecDepth 100000 in
set_option maxHeartbeats 1000000 in
theorem BaseOk2_impl (w : World) (H : HBase) (x : Base) (r : LRow) (b : Nat) (hb : Box w b [.slice H.Mem.Heap.Bytes.a H.Mem.Heap.Bytes.len H.Mem.Heap.Bytes.cap, .slice H.Mem.Heap.Class.a H.Mem.Heap.Class.len H.Mem.Heap.Class.cap, .slice H.Mem.Lists.Global.a H.Mem.Lists.Global.len H.Mem.Lists.Global.cap, .slice H.Mem.Lists.Own.a H.Mem.Lists.Own.len H.Mem.Lists.Own.cap, .int .i64 x.Clock.Epoch, .slice H.Clock.Pins.a H.Clock.Pins.len H.Clock.Pins.cap, .slice H.Limbo.a H.Limbo.len H.Limbo.cap, .slice H.Haz.a H.Haz.len H.Haz.cap]) (h : RdMem w w.heap.size H.Mem x.Mem) (hs : shapeB x.Mem.Heap = true) :
    Calls Tryz.prog 95 #[.agg #[.int .i64 r.Handle, .int .i64 r.Epoch], .pointer (some ⟨b, 0, none⟩)] w fun e w' => e = .returned (.bool (!rowLiveB x r)) ∧ Below w.heap.size w w' := by
  have k := fun (W : World) (hW : Below w.heap.size w W) => isLive_impl W H.Mem x.Mem r.Handle (rdMem_up h hW) hs
  have HV := Hid.mk_ (show rowLiveB x r = (liveB x.Mem r.Handle && decide (r.Epoch ≤ x.Clock.Epoch)) from rfl)
  clear h hs
  have bb : Box (w.alloc (.cells #[.int .i64 r.Handle, .int .i64 r.Epoch] 99)) b [.slice H.Mem.Heap.Bytes.a H.Mem.Heap.Bytes.len H.Mem.Heap.Bytes.cap, .slice H.Mem.Heap.Class.a H.Mem.Heap.Class.len H.Mem.Heap.Class.cap, .slice H.Mem.Lists.Global.a H.Mem.Lists.Global.len H.Mem.Lists.Global.cap, .slice H.Mem.Lists.Own.a H.Mem.Lists.Own.len H.Mem.Lists.Own.cap, .int .i64 x.Clock.Epoch, .slice H.Clock.Pins.a H.Clock.Pins.len H.Clock.Pins.cap, .slice H.Limbo.a H.Limbo.len H.Limbo.cap, .slice H.Haz.a H.Haz.len H.Haz.cap] := hb.alloc _
  have br : Box (w.alloc (.cells #[.int .i64 r.Handle, .int .i64 r.Epoch] 99)) w.heap.size [.int .i64 r.Handle, .int .i64 r.Epoch] := Box.new w #[.int .i64 r.Handle, .int .i64 r.Epoch] 99
  have hB : Below w.heap.size w (w.alloc (.cells #[.int .i64 r.Handle, .int .i64 r.Epoch] 99)) := (Below.refl _ _).alloc (Nat.le_refl _) _
  clear hb
  have q0 := bb.cell 0 _ rfl
  have q1 := bb.cell 1 _ rfl
  have q2 := bb.cell 2 _ rfl
  have q3 := bb.cell 3 _ rfl
  go_enter Tryz.func95, Tryz.ntmps95
  go_wp2_with fail
  generalize liveB x.Mem r.Handle = lv at k HV
  refine (k _ hB).mono ?_
  clear k q0 q1 q2 q3
  rintro e w1 ⟨rfl, hb1⟩
  replace bb := bb.below hb1
  replace br := br.below hb1
  replace hB := hB.trans (hb1.mono (by simp))
  clear hb1
  have q4 := bb.cell 4 _ rfl
  have r1 := br.cell 1 _ rfl
  cases lv with
  | false =>
    go_wp2
    go_ret
    exact ⟨ret_bool (by rw [HV.out]; rfl), hB⟩
  | true =>
    go_wp2
    go_ret
    exact ⟨ret_bool (by rw [HV.out, Bool.eq_iff_iff]; simp), hB⟩
set_option maxRecDepth 100000 in
set_option maxHeartbeats 1000000 in
theorem BaseOk1_impl (w : World) (H : HBase) (x : Base) (A : Option Addr) (c : Nat) (l : List LRow) (b : Nat) (hb : Box w b [.slice H.Mem.Heap.Bytes.a H.Mem.Heap.Bytes.len H.Mem.Heap.Bytes.cap, .slice H.Mem.Heap.Class.a H.Mem.Heap.Class.len H.Mem.Heap.Class.cap, .slice H.Mem.Lists.Global.a H.Mem.Lists.Global.len H.Mem.Lists.Global.cap, .slice H.Mem.Lists.Own.a H.Mem.Lists.Own.len H.Mem.Lists.Own.cap, .int .i64 x.Clock.Epoch, .slice H.Clock.Pins.a H.Clock.Pins.len H.Clock.Pins.cap, .slice H.Limbo.a H.Limbo.len H.Limbo.cap, .slice H.Haz.a H.Haz.len H.Haz.cap]) (h : RdMem w w.heap.size H.Mem x.Mem) (hs : shapeB x.Mem.Heap = true) (hl : RdL FLRow w w.heap.size (.slice A l.length c) l) :
    Calls Tryz.prog 93 #[.agg #[.slice A l.length c], .pointer (some ⟨b, 0, none⟩)] w fun e w' => e = .returned (.bool (!l.all (rowLiveB x))) ∧ Below w.heap.size w w' := by
  have HA := Hid.mk_ (all_not_any_ (rowLiveB x) l)
  have hB : Below w.heap.size w (w.alloc (.cells #[.slice A l.length c] 129)) := (Below.refl _ _).alloc (Nat.le_refl _) _
  have bb : Box (w.alloc (.cells #[.slice A l.length c] 129)) b [.slice H.Mem.Heap.Bytes.a H.Mem.Heap.Bytes.len H.Mem.Heap.Bytes.cap, .slice H.Mem.Heap.Class.a H.Mem.Heap.Class.len H.Mem.Heap.Class.cap, .slice H.Mem.Lists.Global.a H.Mem.Lists.Global.len H.Mem.Lists.Global.cap, .slice H.Mem.Lists.Own.a H.Mem.Lists.Own.len H.Mem.Lists.Own.cap, .int .i64 x.Clock.Epoch, .slice H.Clock.Pins.a H.Clock.Pins.len H.Clock.Pins.cap, .slice H.Limbo.a H.Limbo.len H.Limbo.cap, .slice H.Haz.a H.Haz.len H.Haz.cap] := hb.alloc _
  go_enter Tryz.func93, Tryz.ntmps93
  go_wp2_with fail
  refine (Lim.ContainsFuncLRow_ct _ _ l (rd_up hl hB) 95 #[.pointer (some ⟨b, 0, none⟩)] (fun r => !rowLiveB x r) (fun _ _ => by kernel_rfl) (fun r W _ hW => BaseOk2_impl W H x r b (bb.below hW) (rdMem_up h (hB.trans (hW.mono hB.size))) hs)).mono ?_
  rintro e w1 ⟨rfl, hb1⟩
  go_wp2
  go_ret
  exact ⟨ret_bool (by rw [HA.out]; simp), hB.trans (hb1.mono (by simp))⟩

set_option maxRecDepth 100000 in
set_option maxHeartbeats 2000000 in
theorem BaseOk_impl (w : World) (H : HBase) (x : Base) (h : RdBase w w.heap.size H x) (hs : szLL x.Limbo ≤ 536870912) :
    Calls Tryz.prog 29 #[.agg #[.slice H.Mem.Heap.Bytes.a H.Mem.Heap.Bytes.len H.Mem.Heap.Bytes.cap, .slice H.Mem.Heap.Class.a H.Mem.Heap.Class.len H.Mem.Heap.Class.cap, .slice H.Mem.Lists.Global.a H.Mem.Lists.Global.len H.Mem.Lists.Global.cap, .slice H.Mem.Lists.Own.a H.Mem.Lists.Own.len H.Mem.Lists.Own.cap, .int .i64 x.Clock.Epoch, .slice H.Clock.Pins.a H.Clock.Pins.len H.Clock.Pins.cap, .slice H.Limbo.a H.Limbo.len H.Limbo.cap, .slice H.Haz.a H.Haz.len H.Haz.cap]] w fun e w' => e = .returned (.bool (baseOkB x)) ∧ Below w.heap.size w w' := by
  have k0 := fun (W : World) (hW : Below w.heap.size w W) => MemOk_impl W H.Mem x.Mem (rdMem_up h.Mem hW)
  have k1 := fun (W : World) (hW : Below w.heap.size w W) => Clk.ClockOk_impl W H.Clock x.Clock (rdClock_up h.Clock hW)
  have k2 := fun (W : World) (hW : Below w.heap.size w W) => Lim.LimboOk_impl W _ _ x.Limbo (rdLL_up h.Limbo hW) hs
  have k3 := fun (W : World) (hW : Below w.heap.size w W) => Lim.HazOk_impl W _ x.Haz (rd_up h.Haz hW)
  have HV : Hid (baseOkB x = (memOkB x.Mem && Clk.clockOkB x.Clock && Lim.limboOkB x.Limbo && Lim.hazOkB x.Haz && x.Limbo.all fun l => l.all (rowLiveB x))) := (rfl : _ = _)
  have HSH := Hid.mk_ (fun hm : memOkB x.Mem = true => mem_shape hm)
  generalize memOkB x.Mem = c0 at k0 HV HSH
  generalize Clk.clockOkB x.Clock = c1 at k1 HV
  generalize Lim.limboOkB x.Limbo = c2 at k2 HV
  generalize Lim.hazOkB x.Haz = c3 at k3 HV
  cases c0 with
  | false =>
    replace HV : Hid (baseOkB x = false) := HV.out.trans (by simp)
    have B_a : Box (w.alloc (.cells #[.slice H.Mem.Heap.Bytes.a H.Mem.Heap.Bytes.len H.Mem.Heap.Bytes.cap, .slice H.Mem.Heap.Class.a H.Mem.Heap.Class.len H.Mem.Heap.Class.cap, .slice H.Mem.Lists.Global.a H.Mem.Lists.Global.len H.Mem.Lists.Global.cap, .slice H.Mem.Lists.Own.a H.Mem.Lists.Own.len H.Mem.Lists.Own.cap, .int .i64 x.Clock.Epoch, .slice H.Clock.Pins.a H.Clock.Pins.len H.Clock.Pins.cap, .slice H.Limbo.a H.Limbo.len H.Limbo.cap, .slice H.Haz.a H.Haz.len H.Haz.cap] 37)) (w.heap.size) [.slice H.Mem.Heap.Bytes.a H.Mem.Heap.Bytes.len H.Mem.Heap.Bytes.cap, .slice H.Mem.Heap.Class.a H.Mem.Heap.Class.len H.Mem.Heap.Class.cap, .slice H.Mem.Lists.Global.a H.Mem.Lists.Global.len H.Mem.Lists.Global.cap, .slice H.Mem.Lists.Own.a H.Mem.Lists.Own.len H.Mem.Lists.Own.cap, .int .i64 x.Clock.Epoch, .slice H.Clock.Pins.a H.Clock.Pins.len H.Clock.Pins.cap, .slice H.Limbo.a H.Limbo.len H.Limbo.cap, .slice H.Haz.a H.Haz.len H.Haz.cap] := by
      have hbx := Box.new w #[.slice H.Mem.Heap.Bytes.a H.Mem.Heap.Bytes.len H.Mem.Heap.Bytes.cap, .slice H.Mem.Heap.Class.a H.Mem.Heap.Class.len H.Mem.Heap.Class.cap, .slice H.Mem.Lists.Global.a H.Mem.Lists.Global.len H.Mem.Lists.Global.cap, .slice H.Mem.Lists.Own.a H.Mem.Lists.Own.len H.Mem.Lists.Own.cap, .int .i64 x.Clock.Epoch, .slice H.Clock.Pins.a H.Clock.Pins.len H.Clock.Pins.cap, .slice H.Limbo.a H.Limbo.len H.Limbo.cap, .slice H.Haz.a H.Haz.len H.Haz.cap] 37
      exact hbx
    have hB : Below w.heap.size w (w.alloc (.cells #[.slice H.Mem.Heap.Bytes.a H.Mem.Heap.Bytes.len H.Mem.Heap.Bytes.cap, .slice H.Mem.Heap.Class.a H.Mem.Heap.Class.len H.Mem.Heap.Class.cap, .slice H.Mem.Lists.Global.a H.Mem.Lists.Global.len H.Mem.Lists.Global.cap, .slice H.Mem.Lists.Own.a H.Mem.Lists.Own.len H.Mem.Lists.Own.cap, .int .i64 x.Clock.Epoch, .slice H.Clock.Pins.a H.Clock.Pins.len H.Clock.Pins.cap, .slice H.Limbo.a H.Limbo.len H.Limbo.cap, .slice H.Haz.a H.Haz.len H.Haz.cap] 37)) := by repeat (first | exact Below.refl _ _ | refine Below.alloc ?_ (by simp <;> omega) _ | refine below_grow_of ?_ (by simp <;> omega) _ _ | refine Below.drew ?_ | refine below_drewN ?_ _)
    go_enter Tryz.func29, Tryz.ntmps29
    go_wp2_with fail
    generalize hW0 : (w.alloc (.cells #[.slice H.Mem.Heap.Bytes.a H.Mem.Heap.Bytes.len H.Mem.Heap.Bytes.cap, .slice H.Mem.Heap.Class.a H.Mem.Heap.Class.len H.Mem.Heap.Class.cap, .slice H.Mem.Lists.Global.a H.Mem.Lists.Global.len H.Mem.Lists.Global.cap, .slice H.Mem.Lists.Own.a H.Mem.Lists.Own.len H.Mem.Lists.Own.cap, .int .i64 x.Clock.Epoch, .slice H.Clock.Pins.a H.Clock.Pins.len H.Clock.Pins.cap, .slice H.Limbo.a H.Limbo.len H.Limbo.cap, .slice H.Haz.a H.Haz.len H.Haz.cap] 37)) = w0 at B_a hB ⊢
    clear hW0
    have zz_a := B_a.lt
    have q_a_0 := B_a.cell 0 _ rfl
    have q_a_1 := B_a.cell 1 _ rfl
    have q_a_2 := B_a.cell 2 _ rfl
    have q_a_3 := B_a.cell 3 _ rfl
    have q_a_4 := B_a.cell 4 _ rfl
    have q_a_5 := B_a.cell 5 _ rfl
    have q_a_6 := B_a.cell 6 _ rfl
    have q_a_7 := B_a.cell 7 _ rfl
    have fr_a := B_a.fro
    have z_a := B_a.lt
    refine (k0 _ hB).mono ?_
    rintro e w1 ⟨rfl, hb⟩
    replace B_a := B_a.below hb
    replace hB := hB.trans (hb.mono hB.size)
    have sz := hb.size
    clear hb
    replace q_a_0 := B_a.cell 0 _ rfl
    replace q_a_1 := B_a.cell 1 _ rfl
    replace q_a_2 := B_a.cell 2 _ rfl
    replace q_a_3 := B_a.cell 3 _ rfl
    replace q_a_4 := B_a.cell 4 _ rfl
    replace q_a_5 := B_a.cell 5 _ rfl
    replace q_a_6 := B_a.cell 6 _ rfl
    replace q_a_7 := B_a.cell 7 _ rfl
    replace fr_a := B_a.fro
    replace z_a := B_a.lt
    clear k0
    go_wp2_with fail
    go_ret
    exact ⟨ret_bool HV.out.symm, hB⟩
  | true =>
  cases c1 with
  | false =>
    replace HV : Hid (baseOkB x = false) := HV.out.trans (by simp)
    have B_a : Box (w.alloc (.cells #[.slice H.Mem.Heap.Bytes.a H.Mem.Heap.Bytes.len H.Mem.Heap.Bytes.cap, .slice H.Mem.Heap.Class.a H.Mem.Heap.Class.len H.Mem.Heap.Class.cap, .slice H.Mem.Lists.Global.a H.Mem.Lists.Global.len H.Mem.Lists.Global.cap, .slice H.Mem.Lists.Own.a H.Mem.Lists.Own.len H.Mem.Lists.Own.cap, .int .i64 x.Clock.Epoch, .slice H.Clock.Pins.a H.Clock.Pins.len H.Clock.Pins.cap, .slice H.Limbo.a H.Limbo.len H.Limbo.cap, .slice H.Haz.a H.Haz.len H.Haz.cap] 37)) (w.heap.size) [.slice H.Mem.Heap.Bytes.a H.Mem.Heap.Bytes.len H.Mem.Heap.Bytes.cap, .slice H.Mem.Heap.Class.a H.Mem.Heap.Class.len H.Mem.Heap.Class.cap, .slice H.Mem.Lists.Global.a H.Mem.Lists.Global.len H.Mem.Lists.Global.cap, .slice H.Mem.Lists.Own.a H.Mem.Lists.Own.len H.Mem.Lists.Own.cap, .int .i64 x.Clock.Epoch, .slice H.Clock.Pins.a H.Clock.Pins.len H.Clock.Pins.cap, .slice H.Limbo.a H.Limbo.len H.Limbo.cap, .slice H.Haz.a H.Haz.len H.Haz.cap] := by
      have hbx := Box.new w #[.slice H.Mem.Heap.Bytes.a H.Mem.Heap.Bytes.len H.Mem.Heap.Bytes.cap, .slice H.Mem.Heap.Class.a H.Mem.Heap.Class.len H.Mem.Heap.Class.cap, .slice H.Mem.Lists.Global.a H.Mem.Lists.Global.len H.Mem.Lists.Global.cap, .slice H.Mem.Lists.Own.a H.Mem.Lists.Own.len H.Mem.Lists.Own.cap, .int .i64 x.Clock.Epoch, .slice H.Clock.Pins.a H.Clock.Pins.len H.Clock.Pins.cap, .slice H.Limbo.a H.Limbo.len H.Limbo.cap, .slice H.Haz.a H.Haz.len H.Haz.cap] 37
      exact hbx
    have hB : Below w.heap.size w (w.alloc (.cells #[.slice H.Mem.Heap.Bytes.a H.Mem.Heap.Bytes.len H.Mem.Heap.Bytes.cap, .slice H.Mem.Heap.Class.a H.Mem.Heap.Class.len H.Mem.Heap.Class.cap, .slice H.Mem.Lists.Global.a H.Mem.Lists.Global.len H.Mem.Lists.Global.cap, .slice H.Mem.Lists.Own.a H.Mem.Lists.Own.len H.Mem.Lists.Own.cap, .int .i64 x.Clock.Epoch, .slice H.Clock.Pins.a H.Clock.Pins.len H.Clock.Pins.cap, .slice H.Limbo.a H.Limbo.len H.Limbo.cap, .slice H.Haz.a H.Haz.len H.Haz.cap] 37)) := by repeat (first | exact Below.refl _ _ | refine Below.alloc ?_ (by simp <;> omega) _ | refine below_grow_of ?_ (by simp <;> omega) _ _ | refine Below.drew ?_ | refine below_drewN ?_ _)
    go_enter Tryz.func29, Tryz.ntmps29
    go_wp2_with fail
    generalize hW0 : (w.alloc (.cells #[.slice H.Mem.Heap.Bytes.a H.Mem.Heap.Bytes.len H.Mem.Heap.Bytes.cap, .slice H.Mem.Heap.Class.a H.Mem.Heap.Class.len H.Mem.Heap.Class.cap, .slice H.Mem.Lists.Global.a H.Mem.Lists.Global.len H.Mem.Lists.Global.cap, .slice H.Mem.Lists.Own.a H.Mem.Lists.Own.len H.Mem.Lists.Own.cap, .int .i64 x.Clock.Epoch, .slice H.Clock.Pins.a H.Clock.Pins.len H.Clock.Pins.cap, .slice H.Limbo.a H.Limbo.len H.Limbo.cap, .slice H.Haz.a H.Haz.len H.Haz.cap] 37)) = w0 at B_a hB ⊢
    clear hW0
    have zz_a := B_a.lt
    have q_a_0 := B_a.cell 0 _ rfl
    have q_a_1 := B_a.cell 1 _ rfl
    have q_a_2 := B_a.cell 2 _ rfl
    have q_a_3 := B_a.cell 3 _ rfl
    have q_a_4 := B_a.cell 4 _ rfl
    have q_a_5 := B_a.cell 5 _ rfl
    have q_a_6 := B_a.cell 6 _ rfl
    have q_a_7 := B_a.cell 7 _ rfl
    have fr_a := B_a.fro
    have z_a := B_a.lt
    refine (k0 _ hB).mono ?_
    rintro e w1 ⟨rfl, hb⟩
    replace B_a := B_a.below hb
    replace hB := hB.trans (hb.mono hB.size)
    have sz := hb.size
    clear hb
    replace q_a_0 := B_a.cell 0 _ rfl
    replace q_a_1 := B_a.cell 1 _ rfl
    replace q_a_2 := B_a.cell 2 _ rfl
    replace q_a_3 := B_a.cell 3 _ rfl
    replace q_a_4 := B_a.cell 4 _ rfl
    replace q_a_5 := B_a.cell 5 _ rfl
    replace q_a_6 := B_a.cell 6 _ rfl
    replace q_a_7 := B_a.cell 7 _ rfl
    replace fr_a := B_a.fro
    replace z_a := B_a.lt
    clear k0
    go_wp2_with fail
    refine (k1 _ hB).mono ?_
    rintro e w2 ⟨rfl, hb⟩
    replace B_a := B_a.below hb
    replace hB := hB.trans (hb.mono hB.size)
    have sz := hb.size
    clear hb
    replace q_a_0 := B_a.cell 0 _ rfl
    replace q_a_1 := B_a.cell 1 _ rfl
    replace q_a_2 := B_a.cell 2 _ rfl
    replace q_a_3 := B_a.cell 3 _ rfl
    replace q_a_4 := B_a.cell 4 _ rfl
    replace q_a_5 := B_a.cell 5 _ rfl
    replace q_a_6 := B_a.cell 6 _ rfl
    replace q_a_7 := B_a.cell 7 _ rfl
    replace fr_a := B_a.fro
    replace z_a := B_a.lt
    clear k1
    go_wp2_with fail
    go_ret
    exact ⟨ret_bool HV.out.symm, hB⟩
  | true =>
  cases c2 with
  | false =>
    replace HV : Hid (baseOkB x = false) := HV.out.trans (by simp)
    have B_a : Box (w.alloc (.cells #[.slice H.Mem.Heap.Bytes.a H.Mem.Heap.Bytes.len H.Mem.Heap.Bytes.cap, .slice H.Mem.Heap.Class.a H.Mem.Heap.Class.len H.Mem.Heap.Class.cap, .slice H.Mem.Lists.Global.a H.Mem.Lists.Global.len H.Mem.Lists.Global.cap, .slice H.Mem.Lists.Own.a H.Mem.Lists.Own.len H.Mem.Lists.Own.cap, .int .i64 x.Clock.Epoch, .slice H.Clock.Pins.a H.Clock.Pins.len H.Clock.Pins.cap, .slice H.Limbo.a H.Limbo.len H.Limbo.cap, .slice H.Haz.a H.Haz.len H.Haz.cap] 37)) (w.heap.size) [.slice H.Mem.Heap.Bytes.a H.Mem.Heap.Bytes.len H.Mem.Heap.Bytes.cap, .slice H.Mem.Heap.Class.a H.Mem.Heap.Class.len H.Mem.Heap.Class.cap, .slice H.Mem.Lists.Global.a H.Mem.Lists.Global.len H.Mem.Lists.Global.cap, .slice H.Mem.Lists.Own.a H.Mem.Lists.Own.len H.Mem.Lists.Own.cap, .int .i64 x.Clock.Epoch, .slice H.Clock.Pins.a H.Clock.Pins.len H.Clock.Pins.cap, .slice H.Limbo.a H.Limbo.len H.Limbo.cap, .slice H.Haz.a H.Haz.len H.Haz.cap] := by
      have hbx := Box.new w #[.slice H.Mem.Heap.Bytes.a H.Mem.Heap.Bytes.len H.Mem.Heap.Bytes.cap, .slice H.Mem.Heap.Class.a H.Mem.Heap.Class.len H.Mem.Heap.Class.cap, .slice H.Mem.Lists.Global.a H.Mem.Lists.Global.len H.Mem.Lists.Global.cap, .slice H.Mem.Lists.Own.a H.Mem.Lists.Own.len H.Mem.Lists.Own.cap, .int .i64 x.Clock.Epoch, .slice H.Clock.Pins.a H.Clock.Pins.len H.Clock.Pins.cap, .slice H.Limbo.a H.Limbo.len H.Limbo.cap, .slice H.Haz.a H.Haz.len H.Haz.cap] 37
      exact hbx
    have hB : Below w.heap.size w (w.alloc (.cells #[.slice H.Mem.Heap.Bytes.a H.Mem.Heap.Bytes.len H.Mem.Heap.Bytes.cap, .slice H.Mem.Heap.Class.a H.Mem.Heap.Class.len H.Mem.Heap.Class.cap, .slice H.Mem.Lists.Global.a H.Mem.Lists.Global.len H.Mem.Lists.Global.cap, .slice H.Mem.Lists.Own.a H.Mem.Lists.Own.len H.Mem.Lists.Own.cap, .int .i64 x.Clock.Epoch, .slice H.Clock.Pins.a H.Clock.Pins.len H.Clock.Pins.cap, .slice H.Limbo.a H.Limbo.len H.Limbo.cap, .slice H.Haz.a H.Haz.len H.Haz.cap] 37)) := by repeat (first | exact Below.refl _ _ | refine Below.alloc ?_ (by simp <;> omega) _ | refine below_grow_of ?_ (by simp <;> omega) _ _ | refine Below.drew ?_ | refine below_drewN ?_ _)
    go_enter Tryz.func29, Tryz.ntmps29
    go_wp2_with fail
    generalize hW0 : (w.alloc (.cells #[.slice H.Mem.Heap.Bytes.a H.Mem.Heap.Bytes.len H.Mem.Heap.Bytes.cap, .slice H.Mem.Heap.Class.a H.Mem.Heap.Class.len H.Mem.Heap.Class.cap, .slice H.Mem.Lists.Global.a H.Mem.Lists.Global.len H.Mem.Lists.Global.cap, .slice H.Mem.Lists.Own.a H.Mem.Lists.Own.len H.Mem.Lists.Own.cap, .int .i64 x.Clock.Epoch, .slice H.Clock.Pins.a H.Clock.Pins.len H.Clock.Pins.cap, .slice H.Limbo.a H.Limbo.len H.Limbo.cap, .slice H.Haz.a H.Haz.len H.Haz.cap] 37)) = w0 at B_a hB ⊢
    clear hW0
    have zz_a := B_a.lt
    have q_a_0 := B_a.cell 0 _ rfl
    have q_a_1 := B_a.cell 1 _ rfl
    have q_a_2 := B_a.cell 2 _ rfl
    have q_a_3 := B_a.cell 3 _ rfl
    have q_a_4 := B_a.cell 4 _ rfl
    have q_a_5 := B_a.cell 5 _ rfl
    have q_a_6 := B_a.cell 6 _ rfl
    have q_a_7 := B_a.cell 7 _ rfl
    have fr_a := B_a.fro
    have z_a := B_a.lt
    refine (k0 _ hB).mono ?_
    rintro e w1 ⟨rfl, hb⟩
    replace B_a := B_a.below hb
    replace hB := hB.trans (hb.mono hB.size)
    have sz := hb.size
    clear hb
    replace q_a_0 := B_a.cell 0 _ rfl
    replace q_a_1 := B_a.cell 1 _ rfl
    replace q_a_2 := B_a.cell 2 _ rfl
    replace q_a_3 := B_a.cell 3 _ rfl
    replace q_a_4 := B_a.cell 4 _ rfl
    replace q_a_5 := B_a.cell 5 _ rfl
    replace q_a_6 := B_a.cell 6 _ rfl
    replace q_a_7 := B_a.cell 7 _ rfl
    replace fr_a := B_a.fro
    replace z_a := B_a.lt
    clear k0
    go_wp2_with fail
    refine (k1 _ hB).mono ?_
    rintro e w2 ⟨rfl, hb⟩
    replace B_a := B_a.below hb
    replace hB := hB.trans (hb.mono hB.size)
    have sz := hb.size
    clear hb
    replace q_a_0 := B_a.cell 0 _ rfl
    replace q_a_1 := B_a.cell 1 _ rfl
    replace q_a_2 := B_a.cell 2 _ rfl
    replace q_a_3 := B_a.cell 3 _ rfl
    replace q_a_4 := B_a.cell 4 _ rfl
    replace q_a_5 := B_a.cell 5 _ rfl
    replace q_a_6 := B_a.cell 6 _ rfl
    replace q_a_7 := B_a.cell 7 _ rfl
    replace fr_a := B_a.fro
    replace z_a := B_a.lt
    clear k1
    go_wp2_with fail
    refine (k2 _ hB).mono ?_
    rintro e w3 ⟨rfl, hb⟩
    replace B_a := B_a.below hb
    replace hB := hB.trans (hb.mono hB.size)
    have sz := hb.size
    clear hb
    replace q_a_0 := B_a.cell 0 _ rfl
    replace q_a_1 := B_a.cell 1 _ rfl
    replace q_a_2 := B_a.cell 2 _ rfl
    replace q_a_3 := B_a.cell 3 _ rfl
    replace q_a_4 := B_a.cell 4 _ rfl
    replace q_a_5 := B_a.cell 5 _ rfl
    replace q_a_6 := B_a.cell 6 _ rfl
    replace q_a_7 := B_a.cell 7 _ rfl
    replace fr_a := B_a.fro
    replace z_a := B_a.lt
    clear k2
    go_wp2_with fail
    go_ret
    exact ⟨ret_bool HV.out.symm, hB⟩
  | true =>
  cases c3 with
  | false =>
    replace HV : Hid (baseOkB x = false) := HV.out.trans (by simp)
    have B_a : Box (w.alloc (.cells #[.slice H.Mem.Heap.Bytes.a H.Mem.Heap.Bytes.len H.Mem.Heap.Bytes.cap, .slice H.Mem.Heap.Class.a H.Mem.Heap.Class.len H.Mem.Heap.Class.cap, .slice H.Mem.Lists.Global.a H.Mem.Lists.Global.len H.Mem.Lists.Global.cap, .slice H.Mem.Lists.Own.a H.Mem.Lists.Own.len H.Mem.Lists.Own.cap, .int .i64 x.Clock.Epoch, .slice H.Clock.Pins.a H.Clock.Pins.len H.Clock.Pins.cap, .slice H.Limbo.a H.Limbo.len H.Limbo.cap, .slice H.Haz.a H.Haz.len H.Haz.cap] 37)) (w.heap.size) [.slice H.Mem.Heap.Bytes.a H.Mem.Heap.Bytes.len H.Mem.Heap.Bytes.cap, .slice H.Mem.Heap.Class.a H.Mem.Heap.Class.len H.Mem.Heap.Class.cap, .slice H.Mem.Lists.Global.a H.Mem.Lists.Global.len H.Mem.Lists.Global.cap, .slice H.Mem.Lists.Own.a H.Mem.Lists.Own.len H.Mem.Lists.Own.cap, .int .i64 x.Clock.Epoch, .slice H.Clock.Pins.a H.Clock.Pins.len H.Clock.Pins.cap, .slice H.Limbo.a H.Limbo.len H.Limbo.cap, .slice H.Haz.a H.Haz.len H.Haz.cap] := by
      have hbx := Box.new w #[.slice H.Mem.Heap.Bytes.a H.Mem.Heap.Bytes.len H.Mem.Heap.Bytes.cap, .slice H.Mem.Heap.Class.a H.Mem.Heap.Class.len H.Mem.Heap.Class.cap, .slice H.Mem.Lists.Global.a H.Mem.Lists.Global.len H.Mem.Lists.Global.cap, .slice H.Mem.Lists.Own.a H.Mem.Lists.Own.len H.Mem.Lists.Own.cap, .int .i64 x.Clock.Epoch, .slice H.Clock.Pins.a H.Clock.Pins.len H.Clock.Pins.cap, .slice H.Limbo.a H.Limbo.len H.Limbo.cap, .slice H.Haz.a H.Haz.len H.Haz.cap] 37
      exact hbx
    have hB : Below w.heap.size w (w.alloc (.cells #[.slice H.Mem.Heap.Bytes.a H.Mem.Heap.Bytes.len H.Mem.Heap.Bytes.cap, .slice H.Mem.Heap.Class.a H.Mem.Heap.Class.len H.Mem.Heap.Class.cap, .slice H.Mem.Lists.Global.a H.Mem.Lists.Global.len H.Mem.Lists.Global.cap, .slice H.Mem.Lists.Own.a H.Mem.Lists.Own.len H.Mem.Lists.Own.cap, .int .i64 x.Clock.Epoch, .slice H.Clock.Pins.a H.Clock.Pins.len H.Clock.Pins.cap, .slice H.Limbo.a H.Limbo.len H.Limbo.cap, .slice H.Haz.a H.Haz.len H.Haz.cap] 37)) := by repeat (first | exact Below.refl _ _ | refine Below.alloc ?_ (by simp <;> omega) _ | refine below_grow_of ?_ (by simp <;> omega) _ _ | refine Below.drew ?_ | refine below_drewN ?_ _)
    go_enter Tryz.func29, Tryz.ntmps29
    go_wp2_with fail
    generalize hW0 : (w.alloc (.cells #[.slice H.Mem.Heap.Bytes.a H.Mem.Heap.Bytes.len H.Mem.Heap.Bytes.cap, .slice H.Mem.Heap.Class.a H.Mem.Heap.Class.len H.Mem.Heap.Class.cap, .slice H.Mem.Lists.Global.a H.Mem.Lists.Global.len H.Mem.Lists.Global.cap, .slice H.Mem.Lists.Own.a H.Mem.Lists.Own.len H.Mem.Lists.Own.cap, .int .i64 x.Clock.Epoch, .slice H.Clock.Pins.a H.Clock.Pins.len H.Clock.Pins.cap, .slice H.Limbo.a H.Limbo.len H.Limbo.cap, .slice H.Haz.a H.Haz.len H.Haz.cap] 37)) = w0 at B_a hB ⊢
    clear hW0
    have zz_a := B_a.lt
    have q_a_0 := B_a.cell 0 _ rfl
    have q_a_1 := B_a.cell 1 _ rfl
    have q_a_2 := B_a.cell 2 _ rfl
    have q_a_3 := B_a.cell 3 _ rfl
    have q_a_4 := B_a.cell 4 _ rfl
    have q_a_5 := B_a.cell 5 _ rfl
    have q_a_6 := B_a.cell 6 _ rfl
    have q_a_7 := B_a.cell 7 _ rfl
    have fr_a := B_a.fro
    have z_a := B_a.lt
    refine (k0 _ hB).mono ?_
    rintro e w1 ⟨rfl, hb⟩
    replace B_a := B_a.below hb
    replace hB := hB.trans (hb.mono hB.size)
    have sz := hb.size
    clear hb
    replace q_a_0 := B_a.cell 0 _ rfl
    replace q_a_1 := B_a.cell 1 _ rfl
    replace q_a_2 := B_a.cell 2 _ rfl
    replace q_a_3 := B_a.cell 3 _ rfl
    replace q_a_4 := B_a.cell 4 _ rfl
    replace q_a_5 := B_a.cell 5 _ rfl
    replace q_a_6 := B_a.cell 6 _ rfl
    replace q_a_7 := B_a.cell 7 _ rfl
    replace fr_a := B_a.fro
    replace z_a := B_a.lt
    clear k0
    go_wp2_with fail
    refine (k1 _ hB).mono ?_
    rintro e w2 ⟨rfl, hb⟩
    replace B_a := B_a.below hb
    replace hB := hB.trans (hb.mono hB.size)
    have sz := hb.size
    clear hb
    replace q_a_0 := B_a.cell 0 _ rfl
    replace q_a_1 := B_a.cell 1 _ rfl
    replace q_a_2 := B_a.cell 2 _ rfl
    replace q_a_3 := B_a.cell 3 _ rfl
    replace q_a_4 := B_a.cell 4 _ rfl
    replace q_a_5 := B_a.cell 5 _ rfl
    replace q_a_6 := B_a.cell 6 _ rfl
    replace q_a_7 := B_a.cell 7 _ rfl
    replace fr_a := B_a.fro
    replace z_a := B_a.lt
    clear k1
    go_wp2_with fail
    refine (k2 _ hB).mono ?_
    rintro e w3 ⟨rfl, hb⟩
    replace B_a := B_a.below hb
    replace hB := hB.trans (hb.mono hB.size)
    have sz := hb.size
    clear hb
    replace q_a_0 := B_a.cell 0 _ rfl
    replace q_a_1 := B_a.cell 1 _ rfl
    replace q_a_2 := B_a.cell 2 _ rfl
    replace q_a_3 := B_a.cell 3 _ rfl
    replace q_a_4 := B_a.cell 4 _ rfl
    replace q_a_5 := B_a.cell 5 _ rfl
    replace q_a_6 := B_a.cell 6 _ rfl
    replace q_a_7 := B_a.cell 7 _ rfl
    replace fr_a := B_a.fro
    replace z_a := B_a.lt
    clear k2
    go_wp2_with fail
    refine (k3 _ hB).mono ?_
    rintro e w4 ⟨rfl, hb⟩
    replace B_a := B_a.below hb
    replace hB := hB.trans (hb.mono hB.size)
    have sz := hb.size
    clear hb
    replace q_a_0 := B_a.cell 0 _ rfl
    replace q_a_1 := B_a.cell 1 _ rfl
    replace q_a_2 := B_a.cell 2 _ rfl
    replace q_a_3 := B_a.cell 3 _ rfl
    replace q_a_4 := B_a.cell 4 _ rfl
    replace q_a_5 := B_a.cell 5 _ rfl
    replace q_a_6 := B_a.cell 6 _ rfl
    replace q_a_7 := B_a.cell 7 _ rfl
    replace fr_a := B_a.fro
    replace z_a := B_a.lt
    clear k3
    go_wp2_with fail
    go_ret
    exact ⟨ret_bool HV.out.symm, hB⟩
  | true =>
  have B_a : Box (w.alloc (.cells #[.slice H.Mem.Heap.Bytes.a H.Mem.Heap.Bytes.len H.Mem.Heap.Bytes.cap, .slice H.Mem.Heap.Class.a H.Mem.Heap.Class.len H.Mem.Heap.Class.cap, .slice H.Mem.Lists.Global.a H.Mem.Lists.Global.len H.Mem.Lists.Global.cap, .slice H.Mem.Lists.Own.a H.Mem.Lists.Own.len H.Mem.Lists.Own.cap, .int .i64 x.Clock.Epoch, .slice H.Clock.Pins.a H.Clock.Pins.len H.Clock.Pins.cap, .slice H.Limbo.a H.Limbo.len H.Limbo.cap, .slice H.Haz.a H.Haz.len H.Haz.cap] 37)) (w.heap.size) [.slice H.Mem.Heap.Bytes.a H.Mem.Heap.Bytes.len H.Mem.Heap.Bytes.cap, .slice H.Mem.Heap.Class.a H.Mem.Heap.Class.len H.Mem.Heap.Class.cap, .slice H.Mem.Lists.Global.a H.Mem.Lists.Global.len H.Mem.Lists.Global.cap, .slice H.Mem.Lists.Own.a H.Mem.Lists.Own.len H.Mem.Lists.Own.cap, .int .i64 x.Clock.Epoch, .slice H.Clock.Pins.a H.Clock.Pins.len H.Clock.Pins.cap, .slice H.Limbo.a H.Limbo.len H.Limbo.cap, .slice H.Haz.a H.Haz.len H.Haz.cap] := by
    have hbx := Box.new w #[.slice H.Mem.Heap.Bytes.a H.Mem.Heap.Bytes.len H.Mem.Heap.Bytes.cap, .slice H.Mem.Heap.Class.a H.Mem.Heap.Class.len H.Mem.Heap.Class.cap, .slice H.Mem.Lists.Global.a H.Mem.Lists.Global.len H.Mem.Lists.Global.cap, .slice H.Mem.Lists.Own.a H.Mem.Lists.Own.len H.Mem.Lists.Own.cap, .int .i64 x.Clock.Epoch, .slice H.Clock.Pins.a H.Clock.Pins.len H.Clock.Pins.cap, .slice H.Limbo.a H.Limbo.len H.Limbo.cap, .slice H.Haz.a H.Haz.len H.Haz.cap] 37
    exact hbx
  have hB : Below w.heap.size w (w.alloc (.cells #[.slice H.Mem.Heap.Bytes.a H.Mem.Heap.Bytes.len H.Mem.Heap.Bytes.cap, .slice H.Mem.Heap.Class.a H.Mem.Heap.Class.len H.Mem.Heap.Class.cap, .slice H.Mem.Lists.Global.a H.Mem.Lists.Global.len H.Mem.Lists.Global.cap, .slice H.Mem.Lists.Own.a H.Mem.Lists.Own.len H.Mem.Lists.Own.cap, .int .i64 x.Clock.Epoch, .slice H.Clock.Pins.a H.Clock.Pins.len H.Clock.Pins.cap, .slice H.Limbo.a H.Limbo.len H.Limbo.cap, .slice H.Haz.a H.Haz.len H.Haz.cap] 37)) := by repeat (first | exact Below.refl _ _ | refine Below.alloc ?_ (by simp <;> omega) _ | refine below_grow_of ?_ (by simp <;> omega) _ _ | refine Below.drew ?_ | refine below_drewN ?_ _)
  go_enter Tryz.func29, Tryz.ntmps29
  go_wp2_with fail
  generalize hW0 : (w.alloc (.cells #[.slice H.Mem.Heap.Bytes.a H.Mem.Heap.Bytes.len H.Mem.Heap.Bytes.cap, .slice H.Mem.Heap.Class.a H.Mem.Heap.Class.len H.Mem.Heap.Class.cap, .slice H.Mem.Lists.Global.a H.Mem.Lists.Global.len H.Mem.Lists.Global.cap, .slice H.Mem.Lists.Own.a H.Mem.Lists.Own.len H.Mem.Lists.Own.cap, .int .i64 x.Clock.Epoch, .slice H.Clock.Pins.a H.Clock.Pins.len H.Clock.Pins.cap, .slice H.Limbo.a H.Limbo.len H.Limbo.cap, .slice H.Haz.a H.Haz.len H.Haz.cap] 37)) = w0 at B_a hB ⊢
  clear hW0
  have zz_a := B_a.lt
  have q_a_0 := B_a.cell 0 _ rfl
  have q_a_1 := B_a.cell 1 _ rfl
  have q_a_2 := B_a.cell 2 _ rfl
  have q_a_3 := B_a.cell 3 _ rfl
  have q_a_4 := B_a.cell 4 _ rfl
  have q_a_5 := B_a.cell 5 _ rfl
  have q_a_6 := B_a.cell 6 _ rfl
  have q_a_7 := B_a.cell 7 _ rfl
  have fr_a := B_a.fro
  have z_a := B_a.lt
  refine (k0 _ hB).mono ?_
  rintro e w1 ⟨rfl, hb⟩
  replace B_a := B_a.below hb
  replace hB := hB.trans (hb.mono hB.size)
  have sz := hb.size
  clear hb
  replace q_a_0 := B_a.cell 0 _ rfl
  replace q_a_1 := B_a.cell 1 _ rfl
  replace q_a_2 := B_a.cell 2 _ rfl
  replace q_a_3 := B_a.cell 3 _ rfl
  replace q_a_4 := B_a.cell 4 _ rfl
  replace q_a_5 := B_a.cell 5 _ rfl
  replace q_a_6 := B_a.cell 6 _ rfl
  replace q_a_7 := B_a.cell 7 _ rfl
  replace fr_a := B_a.fro
  replace z_a := B_a.lt
  clear k0
  go_wp2_with fail
  refine (k1 _ hB).mono ?_
  rintro e w2 ⟨rfl, hb⟩
  replace B_a := B_a.below hb
  replace hB := hB.trans (hb.mono hB.size)
  have sz := hb.size
  clear hb
  replace q_a_0 := B_a.cell 0 _ rfl
  replace q_a_1 := B_a.cell 1 _ rfl
  replace q_a_2 := B_a.cell 2 _ rfl
  replace q_a_3 := B_a.cell 3 _ rfl
  replace q_a_4 := B_a.cell 4 _ rfl
  replace q_a_5 := B_a.cell 5 _ rfl
  replace q_a_6 := B_a.cell 6 _ rfl
  replace q_a_7 := B_a.cell 7 _ rfl
  replace fr_a := B_a.fro
  replace z_a := B_a.lt
  clear k1
  go_wp2_with fail
  refine (k2 _ hB).mono ?_
  rintro e w3 ⟨rfl, hb⟩
  replace B_a := B_a.below hb
  replace hB := hB.trans (hb.mono hB.size)
  have sz := hb.size
  clear hb
  replace q_a_0 := B_a.cell 0 _ rfl
  replace q_a_1 := B_a.cell 1 _ rfl
  replace q_a_2 := B_a.cell 2 _ rfl
  replace q_a_3 := B_a.cell 3 _ rfl
  replace q_a_4 := B_a.cell 4 _ rfl
  replace q_a_5 := B_a.cell 5 _ rfl
  replace q_a_6 := B_a.cell 6 _ rfl
  replace q_a_7 := B_a.cell 7 _ rfl
  replace fr_a := B_a.fro
  replace z_a := B_a.lt
  clear k2
  go_wp2_with fail
  refine (k3 _ hB).mono ?_
  rintro e w4 ⟨rfl, hb⟩
  replace B_a := B_a.below hb
  replace hB := hB.trans (hb.mono hB.size)
  have sz := hb.size
  clear hb
  replace q_a_0 := B_a.cell 0 _ rfl
  replace q_a_1 := B_a.cell 1 _ rfl
  replace q_a_2 := B_a.cell 2 _ rfl
  replace q_a_3 := B_a.cell 3 _ rfl
  replace q_a_4 := B_a.cell 4 _ rfl
  replace q_a_5 := B_a.cell 5 _ rfl
  replace q_a_6 := B_a.cell 6 _ rfl
  replace q_a_7 := B_a.cell 7 _ rfl
  replace fr_a := B_a.fro
  replace z_a := B_a.lt
  clear k3
  have hsh := HSH.out (by simp)
  have HA := Hid.mk_ (all_not_any_ (fun l : List LRow => l.all (rowLiveB x)) x.Limbo)
  go_wp2_with fail
  refine (Lim.ContainsFuncLL_ct _ _ _ x.Limbo (rdLL_up h.Limbo hB) 93 #[.pointer (some ⟨w.heap.size, 0, none⟩)] (fun l => !l.all (rowLiveB x)) (fun _ _ _ _ => by kernel_rfl) (fun A c l W hW hr => BaseOk1_impl W H x A c l w.heap.size (B_a.below hW) (rdMem_up h.Mem (hB.trans (hW.mono hB.size))) hsh hr)).mono ?_
  rintro e w9 ⟨rfl, hb9⟩
  go_wp2
  go_ret
  exact ⟨ret_bool (by rw [HV.out, HA.out]; simp), hB.trans (hb9.mono hB.size)⟩
end Go.Proofs.YtkldapdpaldbgaaGreat
namespace Go.Proofs.YtkldapdpaldbgaaGreat
open Go.RowKit

theorem held_upBS {B B9 g0 g k : Nat} {v0 v1 v2 v3 v4 u0 u1 : Value} {W W9 w w' : World} (h : w.cell? ⟨g0, 0, none⟩ = some v0 ∧ w.cell? ⟨g0, 1, none⟩ = some v1 ∧ w.cell? ⟨g0, 2, none⟩ = some v2 ∧ w.cell? ⟨g0, 3, none⟩ = some v3 ∧ w.cell? ⟨g0, 4, none⟩ = some v4 ∧ w.cell? ⟨g, k, none⟩ = some u0 ∧ w.cell? ⟨g, k + 1, none⟩ = some u1 ∧ g0 < w.heap.size ∧ g < w.heap.size ∧ Below B9 W9 w ∧ Below B W w) (hb : Below w.heap.size w w') (hB : B ≤ g0) (h9 : B9 = W9.heap.size) :
    w'.cell? ⟨g0, 0, none⟩ = some v0 ∧ w'.cell? ⟨g0, 1, none⟩ = some v1 ∧ w'.cell? ⟨g0, 2, none⟩ = some v2 ∧ w'.cell? ⟨g0, 3, none⟩ = some v3 ∧ w'.cell? ⟨g0, 4, none⟩ = some v4 ∧ w'.cell? ⟨g, k, none⟩ = some u0 ∧ w'.cell? ⟨g, k + 1, none⟩ = some u1 ∧ g0 < w'.heap.size ∧ g < w'.heap.size ∧ Below B9 W9 w' ∧ Below B W w' := by
  obtain ⟨a, b, c, d, e, p, q, m, n, f9, f⟩ := h
  subst h9
  exact ⟨cell_up hb m a, cell_up hb m b, cell_up hb m c, cell_up hb m d, cell_up hb m e, cell_up hb n p, cell_up hb n q, Nat.lt_of_lt_of_le m hb.size, Nat.lt_of_lt_of_le n hb.size, f9.trans (hb.mono f9.size), f.trans (hb.mono (by omega))⟩

set_option maxRecDepth 100000 in
set_option maxHeartbeats 8000000 in
theorem BaseOk_spec (w : World) (H : HBase) (x : Base) (h : RdBase w w.heap.size H x) (hs : szLL x.Limbo ≤ 536870912) (hs1 : szLL x.Mem.Lists.Global ≤ 536870912) (hs2 : szLL x.Mem.Lists.Own ≤ 536870912) :
Calls Tryz.prog 14 #[.agg #[.slice H.Mem.Heap.Bytes.a H.Mem.Heap.Bytes.len H.Mem.Heap.Bytes.cap, .slice H.Mem.Heap.Class.a H.Mem.Heap.Class.len H.Mem.Heap.Class.cap, .slice H.Mem.Lists.Global.a H.Mem.Lists.Global.len H.Mem.Lists.Global.cap, .slice H.Mem.Lists.Own.a H.Mem.Lists.Own.len H.Mem.Lists.Own.cap, .int .i64 x.Clock.Epoch, .slice H.Clock.Pins.a H.Clock.Pins.len H.Clock.Pins.cap, .slice H.Limbo.a H.Limbo.len H.Limbo.cap, .slice H.Haz.a H.Haz.len H.Haz.cap]] w fun e w' => e = .returned (.bool (baseOkB x)) ∧ Below w.heap.size w w' := by
  have k0 := fun (W : World) (hW : Below w.heap.size w W) => MemOk_spec W H.Mem x.Mem (rdMem_up h.Mem hW) hs1 hs2
  have k1 := fun (W : World) (hW : Below w.heap.size w W) => Clk.ClockOk_spec W H.Clock x.Clock (rdClock_up h.Clock hW)
  have k2 := fun (W : World) (hW : Below w.heap.size w W) => Lim.LimboOk_spec W _ _ x.Limbo (rdLL_up h.Limbo hW) hs
  have k3 := fun (W : World) (hW : Below w.heap.size w W) => Lim.HazOk_spec W _ x.Haz (rd_up h.Haz hW)
  have HV : Hid (baseOkB x = (memOkB x.Mem && Clk.clockOkB x.Clock && Lim.limboOkB x.Limbo && Lim.hazOkB x.Haz && x.Limbo.all fun l => l.all (rowLiveB x))) := (rfl : _ = _)
  have HSH := Hid.mk_ (fun hm : memOkB x.Mem = true => mem_shape hm)
  generalize memOkB x.Mem = c0 at k0 HV HSH
  generalize Clk.clockOkB x.Clock = c1 at k1 HV
  generalize Lim.limboOkB x.Limbo = c2 at k2 HV
  generalize Lim.hazOkB x.Haz = c3 at k3 HV
  cases c0 with
  | false =>
    replace HV : Hid (baseOkB x = false) := HV.out.trans (by simp)
    have B_a : Box (w.alloc (.cells #[.slice H.Mem.Heap.Bytes.a H.Mem.Heap.Bytes.len H.Mem.Heap.Bytes.cap, .slice H.Mem.Heap.Class.a H.Mem.Heap.Class.len H.Mem.Heap.Class.cap, .slice H.Mem.Lists.Global.a H.Mem.Lists.Global.len H.Mem.Lists.Global.cap, .slice H.Mem.Lists.Own.a H.Mem.Lists.Own.len H.Mem.Lists.Own.cap, .int .i64 x.Clock.Epoch, .slice H.Clock.Pins.a H.Clock.Pins.len H.Clock.Pins.cap, .slice H.Limbo.a H.Limbo.len H.Limbo.cap, .slice H.Haz.a H.Haz.len H.Haz.cap] 37)) (w.heap.size) [.slice H.Mem.Heap.Bytes.a H.Mem.Heap.Bytes.len H.Mem.Heap.Bytes.cap, .slice H.Mem.Heap.Class.a H.Mem.Heap.Class.len H.Mem.Heap.Class.cap, .slice H.Mem.Lists.Global.a H.Mem.Lists.Global.len H.Mem.Lists.Global.cap, .slice H.Mem.Lists.Own.a H.Mem.Lists.Own.len H.Mem.Lists.Own.cap, .int .i64 x.Clock.Epoch, .slice H.Clock.Pins.a H.Clock.Pins.len H.Clock.Pins.cap, .slice H.Limbo.a H.Limbo.len H.Limbo.cap, .slice H.Haz.a H.Haz.len H.Haz.cap] := by
      have hbx := Box.new w #[.slice H.Mem.Heap.Bytes.a H.Mem.Heap.Bytes.len H.Mem.Heap.Bytes.cap, .slice H.Mem.Heap.Class.a H.Mem.Heap.Class.len H.Mem.Heap.Class.cap, .slice H.Mem.Lists.Global.a H.Mem.Lists.Global.len H.Mem.Lists.Global.cap, .slice H.Mem.Lists.Own.a H.Mem.Lists.Own.len H.Mem.Lists.Own.cap, .int .i64 x.Clock.Epoch, .slice H.Clock.Pins.a H.Clock.Pins.len H.Clock.Pins.cap, .slice H.Limbo.a H.Limbo.len H.Limbo.cap, .slice H.Haz.a H.Haz.len H.Haz.cap] 37
      exact hbx
    have hB : Below w.heap.size w (w.alloc (.cells #[.slice H.Mem.Heap.Bytes.a H.Mem.Heap.Bytes.len H.Mem.Heap.Bytes.cap, .slice H.Mem.Heap.Class.a H.Mem.Heap.Class.len H.Mem.Heap.Class.cap, .slice H.Mem.Lists.Global.a H.Mem.Lists.Global.len H.Mem.Lists.Global.cap, .slice H.Mem.Lists.Own.a H.Mem.Lists.Own.len H.Mem.Lists.Own.cap, .int .i64 x.Clock.Epoch, .slice H.Clock.Pins.a H.Clock.Pins.len H.Clock.Pins.cap, .slice H.Limbo.a H.Limbo.len H.Limbo.cap, .slice H.Haz.a H.Haz.len H.Haz.cap] 37)) := by repeat (first | exact Below.refl _ _ | refine Below.alloc ?_ (by simp <;> omega) _ | refine below_grow_of ?_ (by simp <;> omega) _ _ | refine Below.drew ?_ | refine below_drewN ?_ _)
    go_enter Tryz.func14, Tryz.ntmps14
    go_wp2_with fail
    generalize hW0 : (w.alloc (.cells #[.slice H.Mem.Heap.Bytes.a H.Mem.Heap.Bytes.len H.Mem.Heap.Bytes.cap, .slice H.Mem.Heap.Class.a H.Mem.Heap.Class.len H.Mem.Heap.Class.cap, .slice H.Mem.Lists.Global.a H.Mem.Lists.Global.len H.Mem.Lists.Global.cap, .slice H.Mem.Lists.Own.a H.Mem.Lists.Own.len H.Mem.Lists.Own.cap, .int .i64 x.Clock.Epoch, .slice H.Clock.Pins.a H.Clock.Pins.len H.Clock.Pins.cap, .slice H.Limbo.a H.Limbo.len H.Limbo.cap, .slice H.Haz.a H.Haz.len H.Haz.cap] 37)) = w0 at B_a hB ⊢
    clear hW0
    have zz_a := B_a.lt
    have q_a_0 := B_a.cell 0 _ rfl
    have q_a_1 := B_a.cell 1 _ rfl
    have q_a_2 := B_a.cell 2 _ rfl
    have q_a_3 := B_a.cell 3 _ rfl
    have q_a_4 := B_a.cell 4 _ rfl
    have q_a_5 := B_a.cell 5 _ rfl
    have q_a_6 := B_a.cell 6 _ rfl
    have q_a_7 := B_a.cell 7 _ rfl
    have fr_a := B_a.fro
    have z_a := B_a.lt
    refine (k0 _ hB).mono ?_
    rintro e w1 ⟨rfl, hb⟩
    replace B_a := B_a.below hb
    replace hB := hB.trans (hb.mono hB.size)
    have sz := hb.size
    clear hb
    replace q_a_0 := B_a.cell 0 _ rfl
    replace q_a_1 := B_a.cell 1 _ rfl
    replace q_a_2 := B_a.cell 2 _ rfl
    replace q_a_3 := B_a.cell 3 _ rfl
    replace q_a_4 := B_a.cell 4 _ rfl
    replace q_a_5 := B_a.cell 5 _ rfl
    replace q_a_6 := B_a.cell 6 _ rfl
    replace q_a_7 := B_a.cell 7 _ rfl
    replace fr_a := B_a.fro
    replace z_a := B_a.lt
    clear k0
    go_wp2_with fail
    go_ret
    exact ⟨ret_bool HV.out.symm, hB⟩
  | true =>
  cases c1 with
  | false =>
    replace HV : Hid (baseOkB x = false) := HV.out.trans (by simp)
    have B_a : Box (w.alloc (.cells #[.slice H.Mem.Heap.Bytes.a H.Mem.Heap.Bytes.len H.Mem.Heap.Bytes.cap, .slice H.Mem.Heap.Class.a H.Mem.Heap.Class.len H.Mem.Heap.Class.cap, .slice H.Mem.Lists.Global.a H.Mem.Lists.Global.len H.Mem.Lists.Global.cap, .slice H.Mem.Lists.Own.a H.Mem.Lists.Own.len H.Mem.Lists.Own.cap, .int .i64 x.Clock.Epoch, .slice H.Clock.Pins.a H.Clock.Pins.len H.Clock.Pins.cap, .slice H.Limbo.a H.Limbo.len H.Limbo.cap, .slice H.Haz.a H.Haz.len H.Haz.cap] 37)) (w.heap.size) [.slice H.Mem.Heap.Bytes.a H.Mem.Heap.Bytes.len H.Mem.Heap.Bytes.cap, .slice H.Mem.Heap.Class.a H.Mem.Heap.Class.len H.Mem.Heap.Class.cap, .slice H.Mem.Lists.Global.a H.Mem.Lists.Global.len H.Mem.Lists.Global.cap, .slice H.Mem.Lists.Own.a H.Mem.Lists.Own.len H.Mem.Lists.Own.cap, .int .i64 x.Clock.Epoch, .slice H.Clock.Pins.a H.Clock.Pins.len H.Clock.Pins.cap, .slice H.Limbo.a H.Limbo.len H.Limbo.cap, .slice H.Haz.a H.Haz.len H.Haz.cap] := by
      have hbx := Box.new w #[.slice H.Mem.Heap.Bytes.a H.Mem.Heap.Bytes.len H.Mem.Heap.Bytes.cap, .slice H.Mem.Heap.Class.a H.Mem.Heap.Class.len H.Mem.Heap.Class.cap, .slice H.Mem.Lists.Global.a H.Mem.Lists.Global.len H.Mem.Lists.Global.cap, .slice H.Mem.Lists.Own.a H.Mem.Lists.Own.len H.Mem.Lists.Own.cap, .int .i64 x.Clock.Epoch, .slice H.Clock.Pins.a H.Clock.Pins.len H.Clock.Pins.cap, .slice H.Limbo.a H.Limbo.len H.Limbo.cap, .slice H.Haz.a H.Haz.len H.Haz.cap] 37
      exact hbx
    have hB : Below w.heap.size w (w.alloc (.cells #[.slice H.Mem.Heap.Bytes.a H.Mem.Heap.Bytes.len H.Mem.Heap.Bytes.cap, .slice H.Mem.Heap.Class.a H.Mem.Heap.Class.len H.Mem.Heap.Class.cap, .slice H.Mem.Lists.Global.a H.Mem.Lists.Global.len H.Mem.Lists.Global.cap, .slice H.Mem.Lists.Own.a H.Mem.Lists.Own.len H.Mem.Lists.Own.cap, .int .i64 x.Clock.Epoch, .slice H.Clock.Pins.a H.Clock.Pins.len H.Clock.Pins.cap, .slice H.Limbo.a H.Limbo.len H.Limbo.cap, .slice H.Haz.a H.Haz.len H.Haz.cap] 37)) := by repeat (first | exact Below.refl _ _ | refine Below.alloc ?_ (by simp <;> omega) _ | refine below_grow_of ?_ (by simp <;> omega) _ _ | refine Below.drew ?_ | refine below_drewN ?_ _)
    go_enter Tryz.func14, Tryz.ntmps14
    go_wp2_with fail
    generalize hW0 : (w.alloc (.cells #[.slice H.Mem.Heap.Bytes.a H.Mem.Heap.Bytes.len H.Mem.Heap.Bytes.cap, .slice H.Mem.Heap.Class.a H.Mem.Heap.Class.len H.Mem.Heap.Class.cap, .slice H.Mem.Lists.Global.a H.Mem.Lists.Global.len H.Mem.Lists.Global.cap, .slice H.Mem.Lists.Own.a H.Mem.Lists.Own.len H.Mem.Lists.Own.cap, .int .i64 x.Clock.Epoch, .slice H.Clock.Pins.a H.Clock.Pins.len H.Clock.Pins.cap, .slice H.Limbo.a H.Limbo.len H.Limbo.cap, .slice H.Haz.a H.Haz.len H.Haz.cap] 37)) = w0 at B_a hB ⊢
    clear hW0
    have zz_a := B_a.lt
    have q_a_0 := B_a.cell 0 _ rfl
    have q_a_1 := B_a.cell 1 _ rfl
    have q_a_2 := B_a.cell 2 _ rfl
    have q_a_3 := B_a.cell 3 _ rfl
    have q_a_4 := B_a.cell 4 _ rfl
    have q_a_5 := B_a.cell 5 _ rfl
    have q_a_6 := B_a.cell 6 _ rfl
    have q_a_7 := B_a.cell 7 _ rfl
    have fr_a := B_a.fro
    have z_a := B_a.lt
    refine (k0 _ hB).mono ?_
    rintro e w1 ⟨rfl, hb⟩
    replace B_a := B_a.below hb
    replace hB := hB.trans (hb.mono hB.size)
    have sz := hb.size
    clear hb
    replace q_a_0 := B_a.cell 0 _ rfl
    replace q_a_1 := B_a.cell 1 _ rfl
    replace q_a_2 := B_a.cell 2 _ rfl
    replace q_a_3 := B_a.cell 3 _ rfl
    replace q_a_4 := B_a.cell 4 _ rfl
    replace q_a_5 := B_a.cell 5 _ rfl
    replace q_a_6 := B_a.cell 6 _ rfl
    replace q_a_7 := B_a.cell 7 _ rfl
    replace fr_a := B_a.fro
    replace z_a := B_a.lt
    clear k0
    go_wp2_with fail
    refine (k1 _ hB).mono ?_
    rintro e w2 ⟨rfl, hb⟩
    replace B_a := B_a.below hb
    replace hB := hB.trans (hb.mono hB.size)
    have sz := hb.size
    clear hb
    replace q_a_0 := B_a.cell 0 _ rfl
    replace q_a_1 := B_a.cell 1 _ rfl
    replace q_a_2 := B_a.cell 2 _ rfl
    replace q_a_3 := B_a.cell 3 _ rfl
    replace q_a_4 := B_a.cell 4 _ rfl
    replace q_a_5 := B_a.cell 5 _ rfl
    replace q_a_6 := B_a.cell 6 _ rfl
    replace q_a_7 := B_a.cell 7 _ rfl
    replace fr_a := B_a.fro
    replace z_a := B_a.lt
    clear k1
    go_wp2_with fail
    go_ret
    exact ⟨ret_bool HV.out.symm, hB⟩
  | true =>
  cases c2 with
  | false =>
    replace HV : Hid (baseOkB x = false) := HV.out.trans (by simp)
    have B_a : Box (w.alloc (.cells #[.slice H.Mem.Heap.Bytes.a H.Mem.Heap.Bytes.len H.Mem.Heap.Bytes.cap, .slice H.Mem.Heap.Class.a H.Mem.Heap.Class.len H.Mem.Heap.Class.cap, .slice H.Mem.Lists.Global.a H.Mem.Lists.Global.len H.Mem.Lists.Global.cap, .slice H.Mem.Lists.Own.a H.Mem.Lists.Own.len H.Mem.Lists.Own.cap, .int .i64 x.Clock.Epoch, .slice H.Clock.Pins.a H.Clock.Pins.len H.Clock.Pins.cap, .slice H.Limbo.a H.Limbo.len H.Limbo.cap, .slice H.Haz.a H.Haz.len H.Haz.cap] 37)) (w.heap.size) [.slice H.Mem.Heap.Bytes.a H.Mem.Heap.Bytes.len H.Mem.Heap.Bytes.cap, .slice H.Mem.Heap.Class.a H.Mem.Heap.Class.len H.Mem.Heap.Class.cap, .slice H.Mem.Lists.Global.a H.Mem.Lists.Global.len H.Mem.Lists.Global.cap, .slice H.Mem.Lists.Own.a H.Mem.Lists.Own.len H.Mem.Lists.Own.cap, .int .i64 x.Clock.Epoch, .slice H.Clock.Pins.a H.Clock.Pins.len H.Clock.Pins.cap, .slice H.Limbo.a H.Limbo.len H.Limbo.cap, .slice H.Haz.a H.Haz.len H.Haz.cap] := by
      have hbx := Box.new w #[.slice H.Mem.Heap.Bytes.a H.Mem.Heap.Bytes.len H.Mem.Heap.Bytes.cap, .slice H.Mem.Heap.Class.a H.Mem.Heap.Class.len H.Mem.Heap.Class.cap, .slice H.Mem.Lists.Global.a H.Mem.Lists.Global.len H.Mem.Lists.Global.cap, .slice H.Mem.Lists.Own.a H.Mem.Lists.Own.len H.Mem.Lists.Own.cap, .int .i64 x.Clock.Epoch, .slice H.Clock.Pins.a H.Clock.Pins.len H.Clock.Pins.cap, .slice H.Limbo.a H.Limbo.len H.Limbo.cap, .slice H.Haz.a H.Haz.len H.Haz.cap] 37
      exact hbx
    have hB : Below w.heap.size w (w.alloc (.cells #[.slice H.Mem.Heap.Bytes.a H.Mem.Heap.Bytes.len H.Mem.Heap.Bytes.cap, .slice H.Mem.Heap.Class.a H.Mem.Heap.Class.len H.Mem.Heap.Class.cap, .slice H.Mem.Lists.Global.a H.Mem.Lists.Global.len H.Mem.Lists.Global.cap, .slice H.Mem.Lists.Own.a H.Mem.Lists.Own.len H.Mem.Lists.Own.cap, .int .i64 x.Clock.Epoch, .slice H.Clock.Pins.a H.Clock.Pins.len H.Clock.Pins.cap, .slice H.Limbo.a H.Limbo.len H.Limbo.cap, .slice H.Haz.a H.Haz.len H.Haz.cap] 37)) := by repeat (first | exact Below.refl _ _ | refine Below.alloc ?_ (by simp <;> omega) _ | refine below_grow_of ?_ (by simp <;> omega) _ _ | refine Below.drew ?_ | refine below_drewN ?_ _)
    go_enter Tryz.func14, Tryz.ntmps14
    go_wp2_with fail
    generalize hW0 : (w.alloc (.cells #[.slice H.Mem.Heap.Bytes.a H.Mem.Heap.Bytes.len H.Mem.Heap.Bytes.cap, .slice H.Mem.Heap.Class.a H.Mem.Heap.Class.len H.Mem.Heap.Class.cap, .slice H.Mem.Lists.Global.a H.Mem.Lists.Global.len H.Mem.Lists.Global.cap, .slice H.Mem.Lists.Own.a H.Mem.Lists.Own.len H.Mem.Lists.Own.cap, .int .i64 x.Clock.Epoch, .slice H.Clock.Pins.a H.Clock.Pins.len H.Clock.Pins.cap, .slice H.Limbo.a H.Limbo.len H.Limbo.cap, .slice H.Haz.a H.Haz.len H.Haz.cap] 37)) = w0 at B_a hB ⊢
    clear hW0
    have zz_a := B_a.lt
    have q_a_0 := B_a.cell 0 _ rfl
    have q_a_1 := B_a.cell 1 _ rfl
    have q_a_2 := B_a.cell 2 _ rfl
    have q_a_3 := B_a.cell 3 _ rfl
    have q_a_4 := B_a.cell 4 _ rfl
    have q_a_5 := B_a.cell 5 _ rfl
    have q_a_6 := B_a.cell 6 _ rfl
    have q_a_7 := B_a.cell 7 _ rfl
    have fr_a := B_a.fro
    have z_a := B_a.lt
    refine (k0 _ hB).mono ?_
    rintro e w1 ⟨rfl, hb⟩
    replace B_a := B_a.below hb
    replace hB := hB.trans (hb.mono hB.size)
    have sz := hb.size
    clear hb
    replace q_a_0 := B_a.cell 0 _ rfl
    replace q_a_1 := B_a.cell 1 _ rfl
    replace q_a_2 := B_a.cell 2 _ rfl
    replace q_a_3 := B_a.cell 3 _ rfl
    replace q_a_4 := B_a.cell 4 _ rfl
    replace q_a_5 := B_a.cell 5 _ rfl
    replace q_a_6 := B_a.cell 6 _ rfl
    replace q_a_7 := B_a.cell 7 _ rfl
    replace fr_a := B_a.fro
    replace z_a := B_a.lt
    clear k0
    go_wp2_with fail
    refine (k1 _ hB).mono ?_
    rintro e w2 ⟨rfl, hb⟩
    replace B_a := B_a.below hb
    replace hB := hB.trans (hb.mono hB.size)
    have sz := hb.size
    clear hb
    replace q_a_0 := B_a.cell 0 _ rfl
    replace q_a_1 := B_a.cell 1 _ rfl
    replace q_a_2 := B_a.cell 2 _ rfl
    replace q_a_3 := B_a.cell 3 _ rfl
    replace q_a_4 := B_a.cell 4 _ rfl
    replace q_a_5 := B_a.cell 5 _ rfl
    replace q_a_6 := B_a.cell 6 _ rfl
    replace q_a_7 := B_a.cell 7 _ rfl
    replace fr_a := B_a.fro
    replace z_a := B_a.lt
    clear k1
    go_wp2_with fail
    refine (k2 _ hB).mono ?_
    rintro e w3 ⟨rfl, hb⟩
    replace B_a := B_a.below hb
    replace hB := hB.trans (hb.mono hB.size)
    have sz := hb.size
    clear hb
    replace q_a_0 := B_a.cell 0 _ rfl
    replace q_a_1 := B_a.cell 1 _ rfl
    replace q_a_2 := B_a.cell 2 _ rfl
    replace q_a_3 := B_a.cell 3 _ rfl
    replace q_a_4 := B_a.cell 4 _ rfl
    replace q_a_5 := B_a.cell 5 _ rfl
    replace q_a_6 := B_a.cell 6 _ rfl
    replace q_a_7 := B_a.cell 7 _ rfl
    replace fr_a := B_a.fro
    replace z_a := B_a.lt
    clear k2
    go_wp2_with fail
    go_ret
    exact ⟨ret_bool HV.out.symm, hB⟩
  | true =>
  cases c3 with
  | false =>
    replace HV : Hid (baseOkB x = false) := HV.out.trans (by simp)
    have B_a : Box (w.alloc (.cells #[.slice H.Mem.Heap.Bytes.a H.Mem.Heap.Bytes.len H.Mem.Heap.Bytes.cap, .slice H.Mem.Heap.Class.a H.Mem.Heap.Class.len H.Mem.Heap.Class.cap, .slice H.Mem.Lists.Global.a H.Mem.Lists.Global.len H.Mem.Lists.Global.cap, .slice H.Mem.Lists.Own.a H.Mem.Lists.Own.len H.Mem.Lists.Own.cap, .int .i64 x.Clock.Epoch, .slice H.Clock.Pins.a H.Clock.Pins.len H.Clock.Pins.cap, .slice H.Limbo.a H.Limbo.len H.Limbo.cap, .slice H.Haz.a H.Haz.len H.Haz.cap] 37)) (w.heap.size) [.slice H.Mem.Heap.Bytes.a H.Mem.Heap.Bytes.len H.Mem.Heap.Bytes.cap, .slice H.Mem.Heap.Class.a H.Mem.Heap.Class.len H.Mem.Heap.Class.cap, .slice H.Mem.Lists.Global.a H.Mem.Lists.Global.len H.Mem.Lists.Global.cap, .slice H.Mem.Lists.Own.a H.Mem.Lists.Own.len H.Mem.Lists.Own.cap, .int .i64 x.Clock.Epoch, .slice H.Clock.Pins.a H.Clock.Pins.len H.Clock.Pins.cap, .slice H.Limbo.a H.Limbo.len H.Limbo.cap, .slice H.Haz.a H.Haz.len H.Haz.cap] := by
      have hbx := Box.new w #[.slice H.Mem.Heap.Bytes.a H.Mem.Heap.Bytes.len H.Mem.Heap.Bytes.cap, .slice H.Mem.Heap.Class.a H.Mem.Heap.Class.len H.Mem.Heap.Class.cap, .slice H.Mem.Lists.Global.a H.Mem.Lists.Global.len H.Mem.Lists.Global.cap, .slice H.Mem.Lists.Own.a H.Mem.Lists.Own.len H.Mem.Lists.Own.cap, .int .i64 x.Clock.Epoch, .slice H.Clock.Pins.a H.Clock.Pins.len H.Clock.Pins.cap, .slice H.Limbo.a H.Limbo.len H.Limbo.cap, .slice H.Haz.a H.Haz.len H.Haz.cap] 37
      exact hbx
    have hB : Below w.heap.size w (w.alloc (.cells #[.slice H.Mem.Heap.Bytes.a H.Mem.Heap.Bytes.len H.Mem.Heap.Bytes.cap, .slice H.Mem.Heap.Class.a H.Mem.Heap.Class.len H.Mem.Heap.Class.cap, .slice H.Mem.Lists.Global.a H.Mem.Lists.Global.len H.Mem.Lists.Global.cap, .slice H.Mem.Lists.Own.a H.Mem.Lists.Own.len H.Mem.Lists.Own.cap, .int .i64 x.Clock.Epoch, .slice H.Clock.Pins.a H.Clock.Pins.len H.Clock.Pins.cap, .slice H.Limbo.a H.Limbo.len H.Limbo.cap, .slice H.Haz.a H.Haz.len H.Haz.cap] 37)) := by repeat (first | exact Below.refl _ _ | refine Below.alloc ?_ (by simp <;> omega) _ | refine below_grow_of ?_ (by simp <;> omega) _ _ | refine Below.drew ?_ | refine below_drewN ?_ _)
    go_enter Tryz.func14, Tryz.ntmps14
    go_wp2_with fail
    generalize hW0 : (w.alloc (.cells #[.slice H.Mem.Heap.Bytes.a H.Mem.Heap.Bytes.len H.Mem.Heap.Bytes.cap, .slice H.Mem.Heap.Class.a H.Mem.Heap.Class.len H.Mem.Heap.Class.cap, .slice H.Mem.Lists.Global.a H.Mem.Lists.Global.len H.Mem.Lists.Global.cap, .slice H.Mem.Lists.Own.a H.Mem.Lists.Own.len H.Mem.Lists.Own.cap, .int .i64 x.Clock.Epoch, .slice H.Clock.Pins.a H.Clock.Pins.len H.Clock.Pins.cap, .slice H.Limbo.a H.Limbo.len H.Limbo.cap, .slice H.Haz.a H.Haz.len H.Haz.cap] 37)) = w0 at B_a hB ⊢
    clear hW0
    have zz_a := B_a.lt
    have q_a_0 := B_a.cell 0 _ rfl
    have q_a_1 := B_a.cell 1 _ rfl
    have q_a_2 := B_a.cell 2 _ rfl
    have q_a_3 := B_a.cell 3 _ rfl
    have q_a_4 := B_a.cell 4 _ rfl
    have q_a_5 := B_a.cell 5 _ rfl
    have q_a_6 := B_a.cell 6 _ rfl
    have q_a_7 := B_a.cell 7 _ rfl
    have fr_a := B_a.fro
    have z_a := B_a.lt
    refine (k0 _ hB).mono ?_
    rintro e w1 ⟨rfl, hb⟩
    replace B_a := B_a.below hb
    replace hB := hB.trans (hb.mono hB.size)
    have sz := hb.size
    clear hb
    replace q_a_0 := B_a.cell 0 _ rfl
    replace q_a_1 := B_a.cell 1 _ rfl
    replace q_a_2 := B_a.cell 2 _ rfl
    replace q_a_3 := B_a.cell 3 _ rfl
    replace q_a_4 := B_a.cell 4 _ rfl
    replace q_a_5 := B_a.cell 5 _ rfl
    replace q_a_6 := B_a.cell 6 _ rfl
    replace q_a_7 := B_a.cell 7 _ rfl
    replace fr_a := B_a.fro
    replace z_a := B_a.lt
    clear k0
    go_wp2_with fail
    refine (k1 _ hB).mono ?_
    rintro e w2 ⟨rfl, hb⟩
    replace B_a := B_a.below hb
    replace hB := hB.trans (hb.mono hB.size)
    have sz := hb.size
    clear hb
    replace q_a_0 := B_a.cell 0 _ rfl
    replace q_a_1 := B_a.cell 1 _ rfl
    replace q_a_2 := B_a.cell 2 _ rfl
    replace q_a_3 := B_a.cell 3 _ rfl
    replace q_a_4 := B_a.cell 4 _ rfl
    replace q_a_5 := B_a.cell 5 _ rfl
    replace q_a_6 := B_a.cell 6 _ rfl
    replace q_a_7 := B_a.cell 7 _ rfl
    replace fr_a := B_a.fro
    replace z_a := B_a.lt
    clear k1
    go_wp2_with fail
    refine (k2 _ hB).mono ?_
    rintro e w3 ⟨rfl, hb⟩
    replace B_a := B_a.below hb
    replace hB := hB.trans (hb.mono hB.size)
    have sz := hb.size
    clear hb
    replace q_a_0 := B_a.cell 0 _ rfl
    replace q_a_1 := B_a.cell 1 _ rfl
    replace q_a_2 := B_a.cell 2 _ rfl
    replace q_a_3 := B_a.cell 3 _ rfl
    replace q_a_4 := B_a.cell 4 _ rfl
    replace q_a_5 := B_a.cell 5 _ rfl
    replace q_a_6 := B_a.cell 6 _ rfl
    replace q_a_7 := B_a.cell 7 _ rfl
    replace fr_a := B_a.fro
    replace z_a := B_a.lt
    clear k2
    go_wp2_with fail
    refine (k3 _ hB).mono ?_
    rintro e w4 ⟨rfl, hb⟩
    replace B_a := B_a.below hb
    replace hB := hB.trans (hb.mono hB.size)
    have sz := hb.size
    clear hb
    replace q_a_0 := B_a.cell 0 _ rfl
    replace q_a_1 := B_a.cell 1 _ rfl
    replace q_a_2 := B_a.cell 2 _ rfl
    replace q_a_3 := B_a.cell 3 _ rfl
    replace q_a_4 := B_a.cell 4 _ rfl
    replace q_a_5 := B_a.cell 5 _ rfl
    replace q_a_6 := B_a.cell 6 _ rfl
    replace q_a_7 := B_a.cell 7 _ rfl
    replace fr_a := B_a.fro
    replace z_a := B_a.lt
    clear k3
    go_wp2_with fail
    go_ret
    exact ⟨ret_bool HV.out.symm, hB⟩
  | true =>
  have B_a : Box (w.alloc (.cells #[.slice H.Mem.Heap.Bytes.a H.Mem.Heap.Bytes.len H.Mem.Heap.Bytes.cap, .slice H.Mem.Heap.Class.a H.Mem.Heap.Class.len H.Mem.Heap.Class.cap, .slice H.Mem.Lists.Global.a H.Mem.Lists.Global.len H.Mem.Lists.Global.cap, .slice H.Mem.Lists.Own.a H.Mem.Lists.Own.len H.Mem.Lists.Own.cap, .int .i64 x.Clock.Epoch, .slice H.Clock.Pins.a H.Clock.Pins.len H.Clock.Pins.cap, .slice H.Limbo.a H.Limbo.len H.Limbo.cap, .slice H.Haz.a H.Haz.len H.Haz.cap] 37)) (w.heap.size) [.slice H.Mem.Heap.Bytes.a H.Mem.Heap.Bytes.len H.Mem.Heap.Bytes.cap, .slice H.Mem.Heap.Class.a H.Mem.Heap.Class.len H.Mem.Heap.Class.cap, .slice H.Mem.Lists.Global.a H.Mem.Lists.Global.len H.Mem.Lists.Global.cap, .slice H.Mem.Lists.Own.a H.Mem.Lists.Own.len H.Mem.Lists.Own.cap, .int .i64 x.Clock.Epoch, .slice H.Clock.Pins.a H.Clock.Pins.len H.Clock.Pins.cap, .slice H.Limbo.a H.Limbo.len H.Limbo.cap, .slice H.Haz.a H.Haz.len H.Haz.cap] := by
    have hbx := Box.new w #[.slice H.Mem.Heap.Bytes.a H.Mem.Heap.Bytes.len H.Mem.Heap.Bytes.cap, .slice H.Mem.Heap.Class.a H.Mem.Heap.Class.len H.Mem.Heap.Class.cap, .slice H.Mem.Lists.Global.a H.Mem.Lists.Global.len H.Mem.Lists.Global.cap, .slice H.Mem.Lists.Own.a H.Mem.Lists.Own.len H.Mem.Lists.Own.cap, .int .i64 x.Clock.Epoch, .slice H.Clock.Pins.a H.Clock.Pins.len H.Clock.Pins.cap, .slice H.Limbo.a H.Limbo.len H.Limbo.cap, .slice H.Haz.a H.Haz.len H.Haz.cap] 37
    exact hbx
  have hB : Below w.heap.size w (w.alloc (.cells #[.slice H.Mem.Heap.Bytes.a H.Mem.Heap.Bytes.len H.Mem.Heap.Bytes.cap, .slice H.Mem.Heap.Class.a H.Mem.Heap.Class.len H.Mem.Heap.Class.cap, .slice H.Mem.Lists.Global.a H.Mem.Lists.Global.len H.Mem.Lists.Global.cap, .slice H.Mem.Lists.Own.a H.Mem.Lists.Own.len H.Mem.Lists.Own.cap, .int .i64 x.Clock.Epoch, .slice H.Clock.Pins.a H.Clock.Pins.len H.Clock.Pins.cap, .slice H.Limbo.a H.Limbo.len H.Limbo.cap, .slice H.Haz.a H.Haz.len H.Haz.cap] 37)) := by repeat (first | exact Below.refl _ _ | refine Below.alloc ?_ (by simp <;> omega) _ | refine below_grow_of ?_ (by simp <;> omega) _ _ | refine Below.drew ?_ | refine below_drewN ?_ _)
  go_enter Tryz.func14, Tryz.ntmps14
  go_wp2_with fail
  generalize hW0 : (w.alloc (.cells #[.slice H.Mem.Heap.Bytes.a H.Mem.Heap.Bytes.len H.Mem.Heap.Bytes.cap, .slice H.Mem.Heap.Class.a H.Mem.Heap.Class.len H.Mem.Heap.Class.cap, .slice H.Mem.Lists.Global.a H.Mem.Lists.Global.len H.Mem.Lists.Global.cap, .slice H.Mem.Lists.Own.a H.Mem.Lists.Own.len H.Mem.Lists.Own.cap, .int .i64 x.Clock.Epoch, .slice H.Clock.Pins.a H.Clock.Pins.len H.Clock.Pins.cap, .slice H.Limbo.a H.Limbo.len H.Limbo.cap, .slice H.Haz.a H.Haz.len H.Haz.cap] 37)) = w0 at B_a hB ⊢
  clear hW0
  have zz_a := B_a.lt
  have q_a_0 := B_a.cell 0 _ rfl
  have q_a_1 := B_a.cell 1 _ rfl
  have q_a_2 := B_a.cell 2 _ rfl
  have q_a_3 := B_a.cell 3 _ rfl
  have q_a_4 := B_a.cell 4 _ rfl
  have q_a_5 := B_a.cell 5 _ rfl
  have q_a_6 := B_a.cell 6 _ rfl
  have q_a_7 := B_a.cell 7 _ rfl
  have fr_a := B_a.fro
  have z_a := B_a.lt
  refine (k0 _ hB).mono ?_
  rintro e w1 ⟨rfl, hb⟩
  replace B_a := B_a.below hb
  replace hB := hB.trans (hb.mono hB.size)
  have sz := hb.size
  clear hb
  replace q_a_0 := B_a.cell 0 _ rfl
  replace q_a_1 := B_a.cell 1 _ rfl
  replace q_a_2 := B_a.cell 2 _ rfl
  replace q_a_3 := B_a.cell 3 _ rfl
  replace q_a_4 := B_a.cell 4 _ rfl
  replace q_a_5 := B_a.cell 5 _ rfl
  replace q_a_6 := B_a.cell 6 _ rfl
  replace q_a_7 := B_a.cell 7 _ rfl
  replace fr_a := B_a.fro
  replace z_a := B_a.lt
  clear k0
  go_wp2_with fail
  refine (k1 _ hB).mono ?_
  rintro e w2 ⟨rfl, hb⟩
  replace B_a := B_a.below hb
  replace hB := hB.trans (hb.mono hB.size)
  have sz := hb.size
  clear hb
  replace q_a_0 := B_a.cell 0 _ rfl
  replace q_a_1 := B_a.cell 1 _ rfl
  replace q_a_2 := B_a.cell 2 _ rfl
  replace q_a_3 := B_a.cell 3 _ rfl
  replace q_a_4 := B_a.cell 4 _ rfl
  replace q_a_5 := B_a.cell 5 _ rfl
  replace q_a_6 := B_a.cell 6 _ rfl
  replace q_a_7 := B_a.cell 7 _ rfl
  replace fr_a := B_a.fro
  replace z_a := B_a.lt
  clear k1
  go_wp2_with fail
  refine (k2 _ hB).mono ?_
  rintro e w3 ⟨rfl, hb⟩
  replace B_a := B_a.below hb
  replace hB := hB.trans (hb.mono hB.size)
  have sz := hb.size
  clear hb
  replace q_a_0 := B_a.cell 0 _ rfl
  replace q_a_1 := B_a.cell 1 _ rfl
  replace q_a_2 := B_a.cell 2 _ rfl
  replace q_a_3 := B_a.cell 3 _ rfl
  replace q_a_4 := B_a.cell 4 _ rfl
  replace q_a_5 := B_a.cell 5 _ rfl
  replace q_a_6 := B_a.cell 6 _ rfl
  replace q_a_7 := B_a.cell 7 _ rfl
  replace fr_a := B_a.fro
  replace z_a := B_a.lt
  clear k2
  go_wp2_with fail
  refine (k3 _ hB).mono ?_
  rintro e w4 ⟨rfl, hb⟩
  replace B_a := B_a.below hb
  replace hB := hB.trans (hb.mono hB.size)
  have sz := hb.size
  clear hb
  replace q_a_0 := B_a.cell 0 _ rfl
  replace q_a_1 := B_a.cell 1 _ rfl
  replace q_a_2 := B_a.cell 2 _ rfl
  replace q_a_3 := B_a.cell 3 _ rfl
  replace q_a_4 := B_a.cell 4 _ rfl
  replace q_a_5 := B_a.cell 5 _ rfl
  replace q_a_6 := B_a.cell 6 _ rfl
  replace q_a_7 := B_a.cell 7 _ rfl
  replace fr_a := B_a.fro
  replace z_a := B_a.lt
  clear k3
  have hsh := HSH.out (by simp)
  have kA := fun (W : World) (hW : Below w.heap.size w W) => Lim.l11All_ct W _ _ x.Limbo (rdLL_up h.Limbo hW) hs
  go_wp2_with (refine (kA _ hB).mono ?_; rintro e w9 ⟨v', rfl, ho, hf, hb0⟩; clear hf; generalize hL : x.Limbo.flatten = L at ho; obtain ⟨A, c, hv, _, q2, _⟩ := ho.rd'; subst hv)
  go_loopw [4] (fun i wr => ∃ k : Nat, k ≤ L.length ∧ i = .int .i64 k ∧ Below w9.heap.size w9 wr ∧ Hid ((L.take k).any (fun r => !rowLiveB x r) = false)) (fun i _ => L.length - (intOf i).toNat)
  case atStart => exact ⟨0, Nat.zero_le _, rfl, Below.refl _ _, Hid.mk_ (by simp)⟩
  case round =>
    obtain ⟨i, hi, rfl, hb, HR⟩ := hrel
    have BB := (B_a.below hb0).below hb
    have hB' := (hB.trans (hb0.mono (Nat.le_of_lt z_a))).trans (hb.mono (Nat.le_trans (Nat.le_of_lt z_a) hb0.size))
    by_cases hlt : i < L.length
    · obtain ⟨g, off, cap', he, hg, _, _, hc⟩ := (ho.rd'.below hb).at_ (List.getElem?_eq_getElem hlt)
      injection he with he1 he2 he3
      clear he2
      subst he1 he3
      have p0 : wr.cell? ⟨g, off + i * 2, none⟩ = some (.int .i64 L[i].Handle) := hc 0 _ rfl
      have p1 : wr.cell? ⟨g, off + i * 2 + 1, none⟩ = some (.int .i64 L[i].Epoch) := hc 1 _ rfl
      clear hc ho
      have b0 := BB.cell 0 _ rfl
      have b1 := BB.cell 1 _ rfl
      have b2 := BB.cell 2 _ rfl
      have b3 := BB.cell 3 _ rfl
      have b4 := BB.cell 4 _ rfl
      have HL := Hid.mk_ (show rowLiveB x L[i] = (liveB x.Mem L[i].Handle && decide (L[i].Epoch ≤ x.Clock.Epoch)) from rfl)
      have kV := fun (W : World) (hW : Below w.heap.size w W) => l9Valid_spec W H.Mem x.Mem L[i].Handle (rdMem_up h.Mem hW) hsh hs1 hs2
      have zr := BB.lt
      clear q_a_0 q_a_1 q_a_2 q_a_3 q_a_4 q_a_5 q_a_6 q_a_7 fr_a z_a
      have lb := hb.size
      have hlm : L.length ≤ 9223372036854775807 := by unfold maxLen at q2; omega
      have hg9 : g < wr.heap.size := Nat.lt_of_lt_of_le hg hb.size
      clear kA
      generalize hlv : liveB x.Mem L[i].Handle = lv at kV HL
  
      cases lv with
      | false =>
        have HN := Hid.mk_ (show baseOkB x = false by
          rw [HV.out]
          simp only [Bool.true_and]
          rw [← List.all_flatten, hL, List.all_eq_false]
          exact ⟨L[i], List.getElem_mem hlt, by rw [HL.out]; simp⟩)
        clear HL HV HR hL hlv
        go_wp2_with fail
        refine wp_region_held_drew (S := (fun wx => wx.cell? ⟨w.heap.size, 0, none⟩ = some (.slice H.Mem.Heap.Bytes.a H.Mem.Heap.Bytes.len H.Mem.Heap.Bytes.cap) ∧ wx.cell? ⟨w.heap.size, 1, none⟩ = some (.slice H.Mem.Heap.Class.a H.Mem.Heap.Class.len H.Mem.Heap.Class.cap) ∧ wx.cell? ⟨w.heap.size, 2, none⟩ = some (.slice H.Mem.Lists.Global.a H.Mem.Lists.Global.len H.Mem.Lists.Global.cap) ∧ wx.cell? ⟨w.heap.size, 3, none⟩ = some (.slice H.Mem.Lists.Own.a H.Mem.Lists.Own.len H.Mem.Lists.Own.cap) ∧ wx.cell? ⟨w.heap.size, 4, none⟩ = some (.int .i64 x.Clock.Epoch) ∧ wx.cell? ⟨g, off + i * 2, none⟩ = some (.int .i64 L[i].Handle) ∧ wx.cell? ⟨g, off + i * 2 + 1, none⟩ = some (.int .i64 L[i].Epoch) ∧ w.heap.size < wx.heap.size ∧ g < wx.heap.size ∧ Below w9.heap.size w9 wx ∧ Below w.heap.size w wx)) (by kernel_rfl) ?hd (fun hHeld => ?hr)
        case hd =>
          (try dsimp only)
          (first | (go_keep; done) | exact held_upBS (by assumption) (by assumption) (Nat.le_refl _) rfl | exact ⟨by assumption, by assumption, by assumption, by assumption, by assumption, by assumption, by assumption, by assumption, by assumption, Below.drew (by assumption), Below.drew (by assumption)⟩)
        case hr =>
          refine wpAnyH_take (i := 0) (v := ?_) rfl (by kernel_rfl) (by kernel_rfl) (by kernel_rfl) (fun _ _ _ h => h) (Or.inl ⟨by kernel_rfl, ?_⟩) (by assumption) ?_
          rotate_left
          · (intro wz hSw; (try dsimp only at hSw); go_simp; (try with_reducible rfl))
          try simp only [List.getElem_toArray, List.getElem_cons_zero, Act.put, List.setIfInBounds_toArray, List.set_cons_zero, List.set_cons_succ]
          refine wpAnyH_take (i := 1) (v := ?_) rfl (by kernel_rfl) (by kernel_rfl) (by kernel_rfl) (fun _ _ _ h => h) (Or.inl ⟨by kernel_rfl, ?_⟩) (by assumption) ?_
          rotate_left
          · (intro wz hSw; (try dsimp only at hSw); go_simp; (try with_reducible rfl))
          try simp only [List.getElem_toArray, List.getElem_cons_succ, List.getElem_cons_zero, Act.put, List.setIfInBounds_toArray, List.set_cons_zero, List.set_cons_succ]
          refine wpAnyH_take (i := 2) (v := ?_) rfl (by kernel_rfl) (by kernel_rfl) (by kernel_rfl) (fun _ _ _ h => h) (Or.inl ⟨by kernel_rfl, ?_⟩) (by assumption) ?_
          rotate_left
          · (intro wz hSw; (try dsimp only at hSw); go_simp; (try with_reducible rfl))
          try simp only [List.getElem_toArray, List.getElem_cons_succ, List.getElem_cons_zero, Act.put, List.setIfInBounds_toArray, List.set_cons_zero, List.set_cons_succ]
          refine wpAnyH_take (i := 3) (v := ?_) rfl (by kernel_rfl) (by kernel_rfl) (by kernel_rfl) (fun _ _ _ h => h) (Or.inl ⟨by kernel_rfl, ?_⟩) (by assumption) ?_
          rotate_left
          · (intro wz hSw; (try dsimp only at hSw); go_simp; (try with_reducible rfl))
          try simp only [List.getElem_toArray, List.getElem_cons_succ, List.getElem_cons_zero, Act.put, List.setIfInBounds_toArray, List.set_cons_zero, List.set_cons_succ]
          refine wpAnyH_take (i := 4) (v := ?_) rfl (by kernel_rfl) (by kernel_rfl) (by kernel_rfl) (fun _ _ _ h => h) (Or.inl ⟨by kernel_rfl, ?_⟩) (by assumption) ?_
          rotate_left
          · (intro wz hSw; (try dsimp only at hSw); go_simp; (try with_reducible rfl))
          try simp only [List.getElem_toArray, List.getElem_cons_succ, List.getElem_cons_zero, Act.put, List.setIfInBounds_toArray, List.set_cons_zero, List.set_cons_succ]
          refine wpAnyH_take (i := 5) (v := ?_) rfl (by kernel_rfl) (by kernel_rfl) (by kernel_rfl) (fun _ _ _ h => h) (Or.inl ⟨by kernel_rfl, ?_⟩) (by assumption) ?_
          rotate_left
          · (intro wz hSw; (try dsimp only at hSw); go_simp; (try with_reducible rfl))
          try simp only [List.getElem_toArray, List.getElem_cons_succ, List.getElem_cons_zero, Act.put, List.setIfInBounds_toArray, List.set_cons_zero, List.set_cons_succ]
          refine wpAnyH_take (i := 6) (v := ?_) rfl (by kernel_rfl) (by kernel_rfl) (by kernel_rfl) (fun _ _ _ h => h) (Or.inl ⟨by kernel_rfl, ?_⟩) (by assumption) ?_
          rotate_left
          · (intro wz hSw; (try dsimp only at hSw); go_simp; (try with_reducible rfl))
          try simp only [List.getElem_toArray, List.getElem_cons_succ, List.getElem_cons_zero, Act.put, List.setIfInBounds_toArray, List.set_cons_zero, List.set_cons_succ]
          refine wpAnyH_ready (rs := [7]) (by kernel_rfl) (by simp) ?_
          refine AllReadyH.cons rfl (fun K hK => ?_) AllReadyH.nil
          go_simp
          (go_at_call 53; refine (kV _ (by go_split_ands; assumption)).mono ?_; rintro e w1 ⟨rfl, hb1⟩)
          (try go_wp2_with fail)
          refine hK.out _ _ ?hS (fun hHeld => ?hr)
          case hS =>
            (try dsimp only)
            (first | (go_keep; done) | exact held_upBS (by assumption) (by assumption) (Nat.le_refl _) rfl | exact ⟨by assumption, by assumption, by assumption, by assumption, by assumption, by assumption, by assumption, by assumption, by assumption, Below.drew (by assumption), Below.drew (by assumption)⟩)
          case hr =>
            clear hK K
            try simp only [List.getElem_toArray, List.getElem_cons_succ, List.getElem_cons_zero, Act.put, List.setIfInBounds_toArray, List.set_cons_zero, List.set_cons_succ]
            refine wpAnyH_take (i := 8) (v := ?_) rfl (by kernel_rfl) (by kernel_rfl) (by kernel_rfl) (fun _ _ _ h => h) (Or.inl ⟨by kernel_rfl, ?_⟩) (by assumption) ?_
            rotate_left
            · (intro wz hSw; (try dsimp only at hSw); go_simp; (try with_reducible rfl))
            try simp only [List.getElem_toArray, List.getElem_cons_succ, List.getElem_cons_zero, Act.put, List.setIfInBounds_toArray, List.set_cons_zero, List.set_cons_succ]
            refine wpAnyH_take (i := 9) (v := ?_) rfl (by kernel_rfl) (by kernel_rfl) (by kernel_rfl) (fun _ _ _ h => h) (Or.inl ⟨by kernel_rfl, ?_⟩) (by assumption) ?_
            rotate_left
            · (intro wz hSw; (try dsimp only at hSw); go_simp; (try with_reducible rfl))
            try simp only [List.getElem_toArray, List.getElem_cons_succ, List.getElem_cons_zero, Act.put, List.setIfInBounds_toArray, List.set_cons_zero, List.set_cons_succ]
            refine wpAnyH_take (i := 10) (v := undef) rfl (by kernel_rfl) (by kernel_rfl) (by kernel_rfl) (fun _ _ _ h => h) (Or.inr ⟨by kernel_rfl, rfl⟩) (by assumption) ?_
            try simp only [List.getElem_toArray, List.getElem_cons_succ, List.getElem_cons_zero, Act.put, List.setIfInBounds_toArray, List.set_cons_zero, List.set_cons_succ]
            refine wpAnyH_take (i := 11) (v := undef) rfl (by kernel_rfl) (by kernel_rfl) (by kernel_rfl) (fun _ _ _ h => h) (Or.inr ⟨by kernel_rfl, rfl⟩) (by assumption) ?_
            try simp only [List.getElem_toArray, List.getElem_cons_succ, List.getElem_cons_zero, Act.put, List.setIfInBounds_toArray, List.set_cons_zero, List.set_cons_succ]
            refine wpAnyH_take (i := 12) (v := undef) rfl (by kernel_rfl) (by kernel_rfl) (by kernel_rfl) (fun _ _ _ h => h) (Or.inr ⟨by kernel_rfl, rfl⟩) (by assumption) ?_
            try simp only [List.getElem_toArray, List.getElem_cons_succ, List.getElem_cons_zero, Act.put, List.setIfInBounds_toArray, List.set_cons_zero, List.set_cons_succ]
            refine wpAnyH_take (i := 13) (v := undef) rfl (by kernel_rfl) (by kernel_rfl) (by kernel_rfl) (fun _ _ _ h => h) (Or.inr ⟨by kernel_rfl, rfl⟩) (by assumption) ?_
            try simp only [List.getElem_toArray, List.getElem_cons_succ, List.getElem_cons_zero, Act.put, List.setIfInBounds_toArray, List.set_cons_zero, List.set_cons_succ]
            refine wpAnyH_take (i := 14) (v := undef) rfl (by kernel_rfl) (by kernel_rfl) (by kernel_rfl) (fun _ _ _ h => h) (Or.inr ⟨by kernel_rfl, rfl⟩) (by assumption) ?_
            try simp only [List.getElem_toArray, List.getElem_cons_succ, List.getElem_cons_zero, Act.put, List.setIfInBounds_toArray, List.set_cons_zero, List.set_cons_succ]
            refine wpAnyH_take (i := 15) (v := undef) rfl (by kernel_rfl) (by kernel_rfl) (by kernel_rfl) (fun _ _ _ h => h) (Or.inr ⟨by kernel_rfl, rfl⟩) (by assumption) ?_
            try simp only [List.getElem_toArray, List.getElem_cons_succ, List.getElem_cons_zero, Act.put, List.setIfInBounds_toArray, List.set_cons_zero, List.set_cons_succ]
            refine wpAnyH_take (i := 16) (v := undef) rfl (by kernel_rfl) (by kernel_rfl) (by kernel_rfl) (fun _ _ _ h => h) (Or.inr ⟨by kernel_rfl, rfl⟩) (by assumption) ?_
            try simp only [List.getElem_toArray, List.getElem_cons_succ, List.getElem_cons_zero, Act.put, List.setIfInBounds_toArray, List.set_cons_zero, List.set_cons_succ]
            refine wpAnyH_take (i := 17) (v := undef) rfl (by kernel_rfl) (by kernel_rfl) (by kernel_rfl) (fun _ _ _ h => h) (Or.inr ⟨by kernel_rfl, rfl⟩) (by assumption) ?_
            try simp only [List.getElem_toArray, List.getElem_cons_succ, List.getElem_cons_zero, Act.put, List.setIfInBounds_toArray, List.set_cons_zero, List.set_cons_succ]
            refine wpAnyH_take (i := 18) (v := undef) rfl (by kernel_rfl) (by kernel_rfl) (by kernel_rfl) (fun _ _ _ h => h) (Or.inr ⟨by kernel_rfl, rfl⟩) (by assumption) ?_
            try simp only [List.getElem_toArray, List.getElem_cons_succ, List.getElem_cons_zero, Act.put, List.setIfInBounds_toArray, List.set_cons_zero, List.set_cons_succ]
            refine wpAnyH_take (i := 19) (v := ?_) rfl (by kernel_rfl) (by kernel_rfl) (by kernel_rfl) (fun _ _ _ h => h) (Or.inl ⟨by kernel_rfl, ?_⟩) (by assumption) ?_
            rotate_left
            · (intro wz hSw; (try dsimp only at hSw); go_simp; (try with_reducible rfl))
            try simp only [List.getElem_toArray, List.getElem_cons_succ, List.getElem_cons_zero, Act.put, List.setIfInBounds_toArray, List.set_cons_zero, List.set_cons_succ]
            refine wpAnyH_done (by kernel_rfl) ?_ _
            go_wp2_with fail
            go_ret
            exact ⟨ret_bool HN.out.symm, by first | assumption | (go_split_ands; assumption)⟩
      | true =>
        by_cases hE : L[i].Epoch ≤ x.Clock.Epoch
        · have HP := Hid.mk_ (Lim.any_take_succ (fun r => !rowLiveB x r) L i hlt HR.out (by rw [HL.out]; simp [hE]))
          clear HL HR hlv
          go_wp2_with fail
          go_region_held3 (fun wx => wx.cell? ⟨w.heap.size, 0, none⟩ = some (.slice H.Mem.Heap.Bytes.a H.Mem.Heap.Bytes.len H.Mem.Heap.Bytes.cap) ∧ wx.cell? ⟨w.heap.size, 1, none⟩ = some (.slice H.Mem.Heap.Class.a H.Mem.Heap.Class.len H.Mem.Heap.Class.cap) ∧ wx.cell? ⟨w.heap.size, 2, none⟩ = some (.slice H.Mem.Lists.Global.a H.Mem.Lists.Global.len H.Mem.Lists.Global.cap) ∧ wx.cell? ⟨w.heap.size, 3, none⟩ = some (.slice H.Mem.Lists.Own.a H.Mem.Lists.Own.len H.Mem.Lists.Own.cap) ∧ wx.cell? ⟨w.heap.size, 4, none⟩ = some (.int .i64 x.Clock.Epoch) ∧ wx.cell? ⟨g, off + i * 2, none⟩ = some (.int .i64 L[i].Handle) ∧ wx.cell? ⟨g, off + i * 2 + 1, none⟩ = some (.int .i64 L[i].Epoch) ∧ w.heap.size < wx.heap.size ∧ g < wx.heap.size ∧ Below w9.heap.size w9 wx ∧ Below w.heap.size w wx) (first | (go_keep; done) | exact held_upBS (by assumption) (by assumption) (Nat.le_refl _) rfl | exact ⟨by assumption, by assumption, by assumption, by assumption, by assumption, by assumption, by assumption, by assumption, by assumption, Below.drew (by assumption), Below.drew (by assumption)⟩) ((go_at_call 53; refine (kV _ (by go_split_ands; assumption)).mono ?_; rintro e w1 ⟨rfl, hb1⟩))
          all_goals
            go_wp2_with fail
            go_roundw
            case rel => exact ⟨i + 1, by omega, by go_num, by first | assumption | (go_split_ands; assumption), HP⟩
            case measure => simp [intOf]; omega
        · have HN := Hid.mk_ (show baseOkB x = false by
            rw [HV.out]
            simp only [Bool.true_and]
            rw [← List.all_flatten, hL, List.all_eq_false]
            exact ⟨L[i], List.getElem_mem hlt, by rw [HL.out]; simp [hE]⟩)
          clear HL HV HR hL hlv
          go_wp2_with fail
          go_region_held3 (fun wx => wx.cell? ⟨w.heap.size, 0, none⟩ = some (.slice H.Mem.Heap.Bytes.a H.Mem.Heap.Bytes.len H.Mem.Heap.Bytes.cap) ∧ wx.cell? ⟨w.heap.size, 1, none⟩ = some (.slice H.Mem.Heap.Class.a H.Mem.Heap.Class.len H.Mem.Heap.Class.cap) ∧ wx.cell? ⟨w.heap.size, 2, none⟩ = some (.slice H.Mem.Lists.Global.a H.Mem.Lists.Global.len H.Mem.Lists.Global.cap) ∧ wx.cell? ⟨w.heap.size, 3, none⟩ = some (.slice H.Mem.Lists.Own.a H.Mem.Lists.Own.len H.Mem.Lists.Own.cap) ∧ wx.cell? ⟨w.heap.size, 4, none⟩ = some (.int .i64 x.Clock.Epoch) ∧ wx.cell? ⟨g, off + i * 2, none⟩ = some (.int .i64 L[i].Handle) ∧ wx.cell? ⟨g, off + i * 2 + 1, none⟩ = some (.int .i64 L[i].Epoch) ∧ w.heap.size < wx.heap.size ∧ g < wx.heap.size ∧ Below w9.heap.size w9 wx ∧ Below w.heap.size w wx) (first | (go_keep; done) | exact held_upBS (by assumption) (by assumption) (Nat.le_refl _) rfl | exact ⟨by assumption, by assumption, by assumption, by assumption, by assumption, by assumption, by assumption, by assumption, by assumption, Below.drew (by assumption), Below.drew (by assumption)⟩) ((go_at_call 53; refine (kV _ (by go_split_ands; assumption)).mono ?_; rintro e w1 ⟨rfl, hb1⟩))
          all_goals
            go_wp2_with fail
            go_ret
            exact ⟨ret_bool HN.out.symm, by first | assumption | (go_split_ands; assumption)⟩
    · have he : i = L.length := by omega
      subst he
      have HN := Hid.mk_ (show baseOkB x = true by
        have HR' := HR.out
        rw [List.take_length] at HR'
        rw [HV.out]
        simp only [Bool.true_and]
        rw [← List.all_flatten, hL, all_not_any_, HR']
        rfl)
      go_wp2_with fail
      go_ret
      exact ⟨ret_bool HN.out.symm, hB'⟩
end Go.Proofs.YtkldapdpaldbgaaGreat
