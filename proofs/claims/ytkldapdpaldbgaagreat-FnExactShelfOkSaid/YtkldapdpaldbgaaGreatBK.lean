/-
  BaseOk of the program: the contract.
-/
import Derived.Test.YtkldapdpaldbgaaGreatT
import Derived.Test.YtkldapdpaldbgaaGreatL
import Derived.Deep.QuietTactic
import Derived.BigQuiet
import Derived.Deep.LoopGhost
import Derived.Deep.RegionHeld3
import Derived.Test.YtkldapdpaldbgaaGreatN
import Derived.Test.YtkldapdpaldbgaaGreatA
import Derived.WalkSpells
import Derived.Laws.Cover3
import Derived.Test.YtkldapdpaldbgaaGreatBG
import Derived.Test.YtkldapdpaldbgaaGreatWB
import Derived.Test.YtkldapdpaldbgaaGreatUB
namespace Go.Proofs.YtkldapdpaldbgaaGreat
open Go.RowKit

def rowLiveB (x : Base) (r : LRow) : Bool := liveB x.Mem r.Handle && decide (r.Epoch ≤ x.Clock.Epoch)
def baseOkB (x : Base) : Bool := memOkB x.Mem && Clk.clockOkB x.Clock && Lim.limboOkB x.Limbo && Lim.hazOkB x.Haz && x.Limbo.all fun l => l.all (rowLiveB x)
theorem all_not_any_ {α : Type} (p : α → Bool) (l : List α) : l.all p = !(l.any fun x => !p x) := by
  induction l with
  | nil => rfl
  | cons x l ih => simp [ih]

set_option maxRecDepth 100000 in
set_option maxHeartbeats 1000000 in
theorem BaseOk2_impl (w : World) (H : HBase) (x : Base) (r : LRow) (b : Nat) (hb : Box w b [.slice H.Mem.Heap.Bytes.a H.Mem.Heap.Bytes.len H.Mem.Heap.Bytes.cap, .slice H.Mem.Heap.Class.a H.Mem.Heap.Class.len H.Mem.Heap.Class.cap, .slice H.Mem.Lists.Global.a H.Mem.Lists.Global.len H.Mem.Lists.Global.cap, .slice H.Mem.Lists.Own.a H.Mem.Lists.Own.len H.Mem.Lists.Own.cap, .int .i64 x.Clock.Epoch, .slice H.Clock.Pins.a H.Clock.Pins.len H.Clock.Pins.cap, .slice H.Limbo.a H.Limbo.len H.Limbo.cap, .slice H.Haz.a H.Haz.len H.Haz.cap]) (h : RdMem w w.heap.size H.Mem x.Mem) (hs : shapeB x.Mem.Heap = true) :
    Calls Tryz.prog 95 #[.agg #[.int .i64 r.Handle, .int .i64 r.Epoch], .pointer (some ⟨b, 0, none⟩)] w fun e w' => e = .returned (.bool (!rowLiveB x r)) ∧ Below w.heap.size w w' := by
  have k := fun (W : World) (hW : Below w.heap.size w W) => isLive_impl W H.Mem x.Mem r.Handle (rdMem_up h hW) hs
  have HV := Hid.mk_ (show rowLiveB x r = (liveB x.Mem r.Handle && decide (r.Epoch ≤ x.Clock.Epoch)) from rfl)
  clear h hs
  have bb : Box (w.alloc (.cells #[.int .i64 r.Handle, .int .i64 r.Epoch] 99)) b [.slice H.Mem.Heap.Bytes.a H.Mem.Heap.Bytes.len H.Mem.Heap.Bytes.cap, .slice H.Mem.Heap.Class.a H.Mem.Heap.Class.len H.Mem.Heap.Class.cap, .slice H.Mem.Lists.Global.a H.Mem.Lists.Global.len H.Mem.Lists.Global.cap, .slice H.Mem.Lists.Own.a H.Mem.Lists.Own.len H.Mem.Lists.Own.cap, .int .i64 x.Clock.Epoch, .slice H.Clock.Pins.a H.Clock.Pins.len H.Clock.Pins.cap, .slice H.Limbo.a H.Limbo.len H.Limbo.cap, .slice H.Haz.a H.Haz.len H.Haz.cap] := hb.alloc _
  have br : Box (w.alloc (.cells #[.int .i64 r.Handle, .int .i64 r.Epoch] 99)) w.heap.size [.int .i64 r.Handle, .int .i64 r.Epoch] := Box.new w #[.int .i64 r.Handle, .int .i64 r.Epoch] 99
  have hB : Below w.heap.size w (w.alloc (.cells #[.int .i64 r.Handle, .int .i64 r.Epoch] 99)) := (Below.refl _ _).alloc (Nat.le_refl _) _
  clear hb
  have q0 := bb.cell 0 _ rfl
  have q1 := bb.cell 1 _ rfl
  have q2 := bb.cell 2 _ rfl
  have q3 := bb.cell 3 _ rfl
  go_enter Tryz.func95, Tryz.ntmps95
  go_wp2_with fail
  generalize liveB x.Mem r.Handle = lv at k HV
  refine (k _ hB).mono ?_
  clear k q0 q1 q2 q3
  rintro e w1 ⟨rfl, hb1⟩
  replace bb := bb.below hb1
  replace br := br.below hb1
  replace hB := hB.trans (hb1.mono (by simp))
  clear hb1
  have q4 := bb.cell 4 _ rfl
  have r1 := br.cell 1 _ rfl
  cases lv with
  | false =>
    go_wp2
    go_ret
    exact ⟨ret_bool (by rw [HV.out]; rfl), hB⟩
  | true =>
    go_wp2
    go_ret
    exact ⟨ret_bool (by rw [HV.out, Bool.eq_iff_iff]; simp), hB⟩
set_option maxRecDepth 100000 in
set_option maxHeartbeats 1000000 in
theorem BaseOk1_impl (w : World) (H : HBase) (x : Base) (A : Option Addr) (c : Nat) (l : List LRow) (b : Nat) (hb : Box w b [.slice H.Mem.Heap.Bytes.a H.Mem.Heap.Bytes.len H.Mem.Heap.Bytes.cap, .slice H.Mem.Heap.Class.a H.Mem.Heap.Class.len H.Mem.Heap.Class.cap, .slice H.Mem.Lists.Global.a H.Mem.Lists.Global.len H.Mem.Lists.Global.cap, .slice H.Mem.Lists.Own.a H.Mem.Lists.Own.len H.Mem.Lists.Own.cap, .int .i64 x.Clock.Epoch, .slice H.Clock.Pins.a H.Clock.Pins.len H.Clock.Pins.cap, .slice H.Limbo.a H.Limbo.len H.Limbo.cap, .slice H.Haz.a H.Haz.len H.Haz.cap]) (h : RdMem w w.heap.size H.Mem x.Mem) (hs : shapeB x.Mem.Heap = true) (hl : RdL FLRow w w.heap.size (.slice A l.length c) l) :
    Calls Tryz.prog 93 #[.agg #[.slice A l.length c], .pointer (some ⟨b, 0, none⟩)] w fun e w' => e = .returned (.bool (!l.all (rowLiveB x))) ∧ Below w.heap.size w w' := by
  have HA := Hid.mk_ (all_not_any_ (rowLiveB x) l)
  have hB : Below w.heap.size w (w.alloc (.cells #[.slice A l.length c] 129)) := (Below.refl _ _).alloc (Nat.le_refl _) _
  have bb : Box (w.alloc (.cells #[.slice A l.length c] 129)) b [.slice H.Mem.Heap.Bytes.a H.Mem.Heap.Bytes.len H.Mem.Heap.Bytes.cap, .slice H.Mem.Heap.Class.a H.Mem.Heap.Class.len H.Mem.Heap.Class.cap, .slice H.Mem.Lists.Global.a H.Mem.Lists.Global.len H.Mem.Lists.Global.cap, .slice H.Mem.Lists.Own.a H.Mem.Lists.Own.len H.Mem.Lists.Own.cap, .int .i64 x.Clock.Epoch, .slice H.Clock.Pins.a H.Clock.Pins.len H.Clock.Pins.cap, .slice H.Limbo.a H.Limbo.len H.Limbo.cap, .slice H.Haz.a H.Haz.len H.Haz.cap] := hb.alloc _
  go_enter Tryz.func93, Tryz.ntmps93
  go_wp2_with fail
  refine (Lim.ContainsFuncLRow_ct _ _ l (rd_up hl hB) 95 #[.pointer (some ⟨b, 0, none⟩)] (fun r => !rowLiveB x r) (fun _ _ => by kernel_rfl) (fun r W _ hW => BaseOk2_impl W H x r b (bb.below hW) (rdMem_up h (hB.trans (hW.mono hB.size))) hs)).mono ?_
  rintro e w1 ⟨rfl, hb1⟩
  go_wp2
  go_ret
  exact ⟨ret_bool (by rw [HA.out]; simp), hB.trans (hb1.mono (by simp))⟩

set_option maxRecDepth 100000 in
set_option maxHeartbeats 2000000 in
theorem BaseOk_impl (w : World) (H : HBase) (x : Base) (h : RdBase w w.heap.size H x) (hs : szLL x.Limbo ≤ 536870912) :
    Calls Tryz.prog 29 #[.agg #[.slice H.Mem.Heap.Bytes.a H.Mem.Heap.Bytes.len H.Mem.Heap.Bytes.cap, .slice H.Mem.Heap.Class.a H.Mem.Heap.Class.len H.Mem.Heap.Class.cap, .slice H.Mem.Lists.Global.a H.Mem.Lists.Global.len H.Mem.Lists.Global.cap, .slice H.Mem.Lists.Own.a H.Mem.Lists.Own.len H.Mem.Lists.Own.cap, .int .i64 x.Clock.Epoch, .slice H.Clock.Pins.a H.Clock.Pins.len H.Clock.Pins.cap, .slice H.Limbo.a H.Limbo.len H.Limbo.cap, .slice H.Haz.a H.Haz.len H.Haz.cap]] w fun e w' => e = .returned (.bool (baseOkB x)) ∧ Below w.heap.size w w' := by
  have k0 := fun (W : World) (hW : Below w.heap.size w W) => MemOk_impl W H.Mem x.Mem (rdMem_up h.Mem hW)
  have k1 := fun (W : World) (hW : Below w.heap.size w W) => Clk.ClockOk_impl W H.Clock x.Clock (rdClock_up h.Clock hW)
  have k2 := fun (W : World) (hW : Below w.heap.size w W) => Lim.LimboOk_impl W _ _ x.Limbo (rdLL_up h.Limbo hW) hs
  have k3 := fun (W : World) (hW : Below w.heap.size w W) => Lim.HazOk_impl W _ x.Haz (rd_up h.Haz hW)
  have HV : Hid (baseOkB x = (memOkB x.Mem && Clk.clockOkB x.Clock && Lim.limboOkB x.Limbo && Lim.hazOkB x.Haz && x.Limbo.all fun l => l.all (rowLiveB x))) := (rfl : _ = _)
  have HSH := Hid.mk_ (fun hm : memOkB x.Mem = true => mem_shape hm)
  generalize memOkB x.Mem = c0 at k0 HV HSH
  generalize Clk.clockOkB x.Clock = c1 at k1 HV
  generalize Lim.limboOkB x.Limbo = c2 at k2 HV
  generalize Lim.hazOkB x.Haz = c3 at k3 HV
  cases c0 with
  | false =>
    replace HV : Hid (baseOkB x = false) := HV.out.trans (by simp)
    have B_a : Box (w.alloc (.cells #[.slice H.Mem.Heap.Bytes.a H.Mem.Heap.Bytes.len H.Mem.Heap.Bytes.cap, .slice H.Mem.Heap.Class.a H.Mem.Heap.Class.len H.Mem.Heap.Class.cap, .slice H.Mem.Lists.Global.a H.Mem.Lists.Global.len H.Mem.Lists.Global.cap, .slice H.Mem.Lists.Own.a H.Mem.Lists.Own.len H.Mem.Lists.Own.cap, .int .i64 x.Clock.Epoch, .slice H.Clock.Pins.a H.Clock.Pins.len H.Clock.Pins.cap, .slice H.Limbo.a H.Limbo.len H.Limbo.cap, .slice H.Haz.a H.Haz.len H.Haz.cap] 37)) (w.heap.size) [.slice H.Mem.Heap.Bytes.a H.Mem.Heap.Bytes.len H.Mem.Heap.Bytes.cap, .slice H.Mem.Heap.Class.a H.Mem.Heap.Class.len H.Mem.Heap.Class.cap, .slice H.Mem.Lists.Global.a H.Mem.Lists.Global.len H.Mem.Lists.Global.cap, .slice H.Mem.Lists.Own.a H.Mem.Lists.Own.len H.Mem.Lists.Own.cap, .int .i64 x.Clock.Epoch, .slice H.Clock.Pins.a H.Clock.Pins.len H.Clock.Pins.cap, .slice H.Limbo.a H.Limbo.len H.Limbo.cap, .slice H.Haz.a H.Haz.len H.Haz.cap] := by
      have hbx := Box.new w #[.slice H.Mem.Heap.Bytes.a H.Mem.Heap.Bytes.len H.Mem.Heap.Bytes.cap, .slice H.Mem.Heap.Class.a H.Mem.Heap.Class.len H.Mem.Heap.Class.cap, .slice H.Mem.Lists.Global.a H.Mem.Lists.Global.len H.Mem.Lists.Global.cap, .slice H.Mem.Lists.Own.a H.Mem.Lists.Own.len H.Mem.Lists.Own.cap, .int .i64 x.Clock.Epoch, .slice H.Clock.Pins.a H.Clock.Pins.len H.Clock.Pins.cap, .slice H.Limbo.a H.Limbo.len H.Limbo.cap, .slice H.Haz.a H.Haz.len H.Haz.cap] 37
      exact hbx
    have hB : Below w.heap.size w (w.alloc (.cells #[.slice H.Mem.Heap.Bytes.a H.Mem.Heap.Bytes.len H.Mem.Heap.Bytes.cap, .slice H.Mem.Heap.Class.a H.Mem.Heap.Class.len H.Mem.Heap.Class.cap, .slice H.Mem.Lists.Global.a H.Mem.Lists.Global.len H.Mem.Lists.Global.cap, .slice H.Mem.Lists.Own.a H.Mem.Lists.Own.len H.Mem.Lists.Own.cap, .int .i64 x.Clock.Epoch, .slice H.Clock.Pins.a H.Clock.Pins.len H.Clock.Pins.cap, .slice H.Limbo.a H.Limbo.len H.Limbo.cap, .slice H.Haz.a H.Haz.len H.Haz.cap] 37)) := by repeat (first | exact Below.refl _ _ | refine Below.alloc ?_ (by simp <;> omega) _ | refine below_grow_of ?_ (by simp <;> omega) _ _ | refine Below.drew ?_ | refine below_drewN ?_ _)
    go_enter Tryz.func29, Tryz.ntmps29
    go_wp2_with fail
    generalize hW0 : (w.alloc (.cells #[.slice H.Mem.Heap.Bytes.a H.Mem.Heap.Bytes.len H.Mem.Heap.Bytes.cap, .slice H.Mem.Heap.Class.a H.Mem.Heap.Class.len H.Mem.Heap.Class.cap, .slice H.Mem.Lists.Global.a H.Mem.Lists.Global.len H.Mem.Lists.Global.cap, .slice H.Mem.Lists.Own.a H.Mem.Lists.Own.len H.Mem.Lists.Own.cap, .int .i64 x.Clock.Epoch, .slice H.Clock.Pins.a H.Clock.Pins.len H.Clock.Pins.cap, .slice H.Limbo.a H.Limbo.len H.Limbo.cap, .slice H.Haz.a H.Haz.len H.Haz.cap] 37)) = w0 at B_a hB ⊢
    clear hW0
    have zz_a := B_a.lt
    have q_a_0 := B_a.cell 0 _ rfl
    have q_a_1 := B_a.cell 1 _ rfl
    have q_a_2 := B_a.cell 2 _ rfl
    have q_a_3 := B_a.cell 3 _ rfl
    have q_a_4 := B_a.cell 4 _ rfl
    have q_a_5 := B_a.cell 5 _ rfl
    have q_a_6 := B_a.cell 6 _ rfl
    have q_a_7 := B_a.cell 7 _ rfl
    have fr_a := B_a.fro
    have z_a := B_a.lt
    refine (k0 _ hB).mono ?_
    rintro e w1 ⟨rfl, hb⟩
    replace B_a := B_a.below hb
    replace hB := hB.trans (hb.mono hB.size)
    have sz := hb.size
    clear hb
    replace q_a_0 := B_a.cell 0 _ rfl
    replace q_a_1 := B_a.cell 1 _ rfl
    replace q_a_2 := B_a.cell 2 _ rfl
    replace q_a_3 := B_a.cell 3 _ rfl
    replace q_a_4 := B_a.cell 4 _ rfl
    replace q_a_5 := B_a.cell 5 _ rfl
    replace q_a_6 := B_a.cell 6 _ rfl
    replace q_a_7 := B_a.cell 7 _ rfl
    replace fr_a := B_a.fro
    replace z_a := B_a.lt
    clear k0
    go_wp2_with fail
    go_ret
    exact ⟨ret_bool HV.out.symm, hB⟩
  | true =>
  cases c1 with
  | false =>
    replace HV : Hid (baseOkB x = false) := HV.out.trans (by simp)
    have B_a : Box (w.alloc (.cells #[.slice H.Mem.Heap.Bytes.a H.Mem.Heap.Bytes.len H.Mem.Heap.Bytes.cap, .slice H.Mem.Heap.Class.a H.Mem.Heap.Class.len H.Mem.Heap.Class.cap, .slice H.Mem.Lists.Global.a H.Mem.Lists.Global.len H.Mem.Lists.Global.cap, .slice H.Mem.Lists.Own.a H.Mem.Lists.Own.len H.Mem.Lists.Own.cap, .int .i64 x.Clock.Epoch, .slice H.Clock.Pins.a H.Clock.Pins.len H.Clock.Pins.cap, .slice H.Limbo.a H.Limbo.len H.Limbo.cap, .slice H.Haz.a H.Haz.len H.Haz.cap] 37)) (w.heap.size) [.slice H.Mem.Heap.Bytes.a H.Mem.Heap.Bytes.len H.Mem.Heap.Bytes.cap, .slice H.Mem.Heap.Class.a H.Mem.Heap.Class.len H.Mem.Heap.Class.cap, .slice H.Mem.Lists.Global.a H.Mem.Lists.Global.len H.Mem.Lists.Global.cap, .slice H.Mem.Lists.Own.a H.Mem.Lists.Own.len H.Mem.Lists.Own.cap, .int .i64 x.Clock.Epoch, .slice H.Clock.Pins.a H.Clock.Pins.len H.Clock.Pins.cap, .slice H.Limbo.a H.Limbo.len H.Limbo.cap, .slice H.Haz.a H.Haz.len H.Haz.cap] := by
      have hbx := Box.new w #[.slice H.Mem.Heap.Bytes.a H.Mem.Heap.Bytes.len H.Mem.Heap.Bytes.cap, .slice H.Mem.Heap.Class.a H.Mem.Heap.Class.len H.Mem.Heap.Class.cap, .slice H.Mem.Lists.Global.a H.Mem.Lists.Global.len H.Mem.Lists.Global.cap, .slice H.Mem.Lists.Own.a H.Mem.Lists.Own.len H.Mem.Lists.Own.cap, .int .i64 x.Clock.Epoch, .slice H.Clock.Pins.a H.Clock.Pins.len H.Clock.Pins.cap, .slice H.Limbo.a H.Limbo.len H.Limbo.cap, .slice H.Haz.a H.Haz.len H.Haz.cap] 37
      exact hbx
    have hB : Below w.heap.size w (w.alloc (.cells #[.slice H.Mem.Heap.Bytes.a H.Mem.Heap.Bytes.len H.Mem.Heap.Bytes.cap, .slice H.Mem.Heap.Class.a H.Mem.Heap.Class.len H.Mem.Heap.Class.cap, .slice H.Mem.Lists.Global.a H.Mem.Lists.Global.len H.Mem.Lists.Global.cap, .slice H.Mem.Lists.Own.a H.Mem.Lists.Own.len H.Mem.Lists.Own.cap, .int .i64 x.Clock.Epoch, .slice H.Clock.Pins.a H.Clock.Pins.len H.Clock.Pins.cap, .slice H.Limbo.a H.Limbo.len H.Limbo.cap, .slice H.Haz.a H.Haz.len H.Haz.cap] 37)) := by repeat (first | exact Below.refl _ _ | refine Below.alloc ?_ (by simp <;> omega) _ | refine below_grow_of ?_ (by simp <;> omega) _ _ | refine Below.drew ?_ | refine below_drewN ?_ _)
    go_enter Tryz.func29, Tryz.ntmps29
    go_wp2_with fail
    generalize hW0 : (w.alloc (.cells #[.slice H.Mem.Heap.Bytes.a H.Mem.Heap.Bytes.len H.Mem.Heap.Bytes.cap, .slice H.Mem.Heap.Class.a H.Mem.Heap.Class.len H.Mem.Heap.Class.cap, .slice H.Mem.Lists.Global.a H.Mem.Lists.Global.len H.Mem.Lists.Global.cap, .slice H.Mem.Lists.Own.a H.Mem.Lists.Own.len H.Mem.Lists.Own.cap, .int .i64 x.Clock.Epoch, .slice H.Clock.Pins.a H.Clock.Pins.len H.Clock.Pins.cap, .slice H.Limbo.a H.Limbo.len H.Limbo.cap, .slice H.Haz.a H.Haz.len H.Haz.cap] 37)) = w0 at B_a hB ⊢
    clear hW0
    have zz_a := B_a.lt
    have q_a_0 := B_a.cell 0 _ rfl
    have q_a_1 := B_a.cell 1 _ rfl
    have q_a_2 := B_a.cell 2 _ rfl
    have q_a_3 := B_a.cell 3 _ rfl
    have q_a_4 := B_a.cell 4 _ rfl
    have q_a_5 := B_a.cell 5 _ rfl
    have q_a_6 := B_a.cell 6 _ rfl
    have q_a_7 := B_a.cell 7 _ rfl
    have fr_a := B_a.fro
    have z_a := B_a.lt
    refine (k0 _ hB).mono ?_
    rintro e w1 ⟨rfl, hb⟩
    replace B_a := B_a.below hb
    replace hB := hB.trans (hb.mono hB.size)
    have sz := hb.size
    clear hb
    replace q_a_0 := B_a.cell 0 _ rfl
    replace q_a_1 := B_a.cell 1 _ rfl
    replace q_a_2 := B_a.cell 2 _ rfl
    replace q_a_3 := B_a.cell 3 _ rfl
    replace q_a_4 := B_a.cell 4 _ rfl
    replace q_a_5 := B_a.cell 5 _ rfl
    replace q_a_6 := B_a.cell 6 _ rfl
    replace q_a_7 := B_a.cell 7 _ rfl
    replace fr_a := B_a.fro
    replace z_a := B_a.lt
    clear k0
    go_wp2_with fail
    refine (k1 _ hB).mono ?_
    rintro e w2 ⟨rfl, hb⟩
    replace B_a := B_a.below hb
    replace hB := hB.trans (hb.mono hB.size)
    have sz := hb.size
    clear hb
    replace q_a_0 := B_a.cell 0 _ rfl
    replace q_a_1 := B_a.cell 1 _ rfl
    replace q_a_2 := B_a.cell 2 _ rfl
    replace q_a_3 := B_a.cell 3 _ rfl
    replace q_a_4 := B_a.cell 4 _ rfl
    replace q_a_5 := B_a.cell 5 _ rfl
    replace q_a_6 := B_a.cell 6 _ rfl
    replace q_a_7 := B_a.cell 7 _ rfl
    replace fr_a := B_a.fro
    replace z_a := B_a.lt
    clear k1
    go_wp2_with fail
    go_ret
    exact ⟨ret_bool HV.out.symm, hB⟩
  | true =>
  cases c2 with
  | false =>
    replace HV : Hid (baseOkB x = false) := HV.out.trans (by simp)
    have B_a : Box (w.alloc (.cells #[.slice H.Mem.Heap.Bytes.a H.Mem.Heap.Bytes.len H.Mem.Heap.Bytes.cap, .slice H.Mem.Heap.Class.a H.Mem.Heap.Class.len H.Mem.Heap.Class.cap, .slice H.Mem.Lists.Global.a H.Mem.Lists.Global.len H.Mem.Lists.Global.cap, .slice H.Mem.Lists.Own.a H.Mem.Lists.Own.len H.Mem.Lists.Own.cap, .int .i64 x.Clock.Epoch, .slice H.Clock.Pins.a H.Clock.Pins.len H.Clock.Pins.cap, .slice H.Limbo.a H.Limbo.len H.Limbo.cap, .slice H.Haz.a H.Haz.len H.Haz.cap] 37)) (w.heap.size) [.slice H.Mem.Heap.Bytes.a H.Mem.Heap.Bytes.len H.Mem.Heap.Bytes.cap, .slice H.Mem.Heap.Class.a H.Mem.Heap.Class.len H.Mem.Heap.Class.cap, .slice H.Mem.Lists.Global.a H.Mem.Lists.Global.len H.Mem.Lists.Global.cap, .slice H.Mem.Lists.Own.a H.Mem.Lists.Own.len H.Mem.Lists.Own.cap, .int .i64 x.Clock.Epoch, .slice H.Clock.Pins.a H.Clock.Pins.len H.Clock.Pins.cap, .slice H.Limbo.a H.Limbo.len H.Limbo.cap, .slice H.Haz.a H.Haz.len H.Haz.cap] := by
      have hbx := Box.new w #[.slice H.Mem.Heap.Bytes.a H.Mem.Heap.Bytes.len H.Mem.Heap.Bytes.cap, .slice H.Mem.Heap.Class.a H.Mem.Heap.Class.len H.Mem.Heap.Class.cap, .slice H.Mem.Lists.Global.a H.Mem.Lists.Global.len H.Mem.Lists.Global.cap, .slice H.Mem.Lists.Own.a H.Mem.Lists.Own.len H.Mem.Lists.Own.cap, .int .i64 x.Clock.Epoch, .slice H.Clock.Pins.a H.Clock.Pins.len H.Clock.Pins.cap, .slice H.Limbo.a H.Limbo.len H.Limbo.cap, .slice H.Haz.a H.Haz.len H.Haz.cap] 37
      exact hbx
    have hB : Below w.heap.size w (w.alloc (.cells #[.slice H.Mem.Heap.Bytes.a H.Mem.Heap.Bytes.len H.Mem.Heap.Bytes.cap, .slice H.Mem.Heap.Class.a H.Mem.Heap.Class.len H.Mem.Heap.Class.cap, .slice H.Mem.Lists.Global.a H.Mem.Lists.Global.len H.Mem.Lists.Global.cap, .slice H.Mem.Lists.Own.a H.Mem.Lists.Own.len H.Mem.Lists.Own.cap, .int .i64 x.Clock.Epoch, .slice H.Clock.Pins.a H.Clock.Pins.len H.Clock.Pins.cap, .slice H.Limbo.a H.Limbo.len H.Limbo.cap, .slice H.Haz.a H.Haz.len H.Haz.cap] 37)) := by repeat (first | exact Below.refl _ _ | refine Below.alloc ?_ (by simp <;> omega) _ | refine below_grow_of ?_ (by simp <;> omega) _ _ | refine Below.drew ?_ | refine below_drewN ?_ _)
    go_enter Tryz.func29, Tryz.ntmps29
    go_wp2_with fail
    generalize hW0 : (w.alloc (.cells #[.slice H.Mem.Heap.Bytes.a H.Mem.Heap.Bytes.len H.Mem.Heap.Bytes.cap, .slice H.Mem.Heap.Class.a H.Mem.Heap.Class.len H.Mem.Heap.Class.cap, .slice H.Mem.Lists.Global.a H.Mem.Lists.Global.len H.Mem.Lists.Global.cap, .slice H.Mem.Lists.Own.a H.Mem.Lists.Own.len H.Mem.Lists.Own.cap, .int .i64 x.Clock.Epoch, .slice H.Clock.Pins.a H.Clock.Pins.len H.Clock.Pins.cap, .slice H.Limbo.a H.Limbo.len H.Limbo.cap, .slice H.Haz.a H.Haz.len H.Haz.cap] 37)) = w0 at B_a hB ⊢
    clear hW0
    have zz_a := B_a.lt
    have q_a_0 := B_a.cell 0 _ rfl
    have q_a_1 := B_a.cell 1 _ rfl
    have q_a_2 := B_a.cell 2 _ rfl
    have q_a_3 := B_a.cell 3 _ rfl
    have q_a_4 := B_a.cell 4 _ rfl
    have q_a_5 := B_a.cell 5 _ rfl
    have q_a_6 := B_a.cell 6 _ rfl
    have q_a_7 := B_a.cell 7 _ rfl
    have fr_a := B_a.fro
    have z_a := B_a.lt
    refine (k0 _ hB).mono ?_
    rintro e w1 ⟨rfl, hb⟩
    replace B_a := B_a.below hb
    replace hB := hB.trans (hb.mono hB.size)
    have sz := hb.size
    clear hb
    replace q_a_0 := B_a.cell 0 _ rfl
    replace q_a_1 := B_a.cell 1 _ rfl
    replace q_a_2 := B_a.cell 2 _ rfl
    replace q_a_3 := B_a.cell 3 _ rfl
    replace q_a_4 := B_a.cell 4 _ rfl
    replace q_a_5 := B_a.cell 5 _ rfl
    replace q_a_6 := B_a.cell 6 _ rfl
    replace q_a_7 := B_a.cell 7 _ rfl
    replace fr_a := B_a.fro
    replace z_a := B_a.lt
    clear k0
    go_wp2_with fail
    refine (k1 _ hB).mono ?_
    rintro e w2 ⟨rfl, hb⟩
    replace B_a := B_a.below hb
    replace hB := hB.trans (hb.mono hB.size)
    have sz := hb.size
    clear hb
    replace q_a_0 := B_a.cell 0 _ rfl
    replace q_a_1 := B_a.cell 1 _ rfl
    replace q_a_2 := B_a.cell 2 _ rfl
    replace q_a_3 := B_a.cell 3 _ rfl
    replace q_a_4 := B_a.cell 4 _ rfl
    replace q_a_5 := B_a.cell 5 _ rfl
    replace q_a_6 := B_a.cell 6 _ rfl
    replace q_a_7 := B_a.cell 7 _ rfl
    replace fr_a := B_a.fro
    replace z_a := B_a.lt
    clear k1
    go_wp2_with fail
    refine (k2 _ hB).mono ?_
    rintro e w3 ⟨rfl, hb⟩
    replace B_a := B_a.below hb
    replace hB := hB.trans (hb.mono hB.size)
    have sz := hb.size
    clear hb
    replace q_a_0 := B_a.cell 0 _ rfl
    replace q_a_1 := B_a.cell 1 _ rfl
    replace q_a_2 := B_a.cell 2 _ rfl
    replace q_a_3 := B_a.cell 3 _ rfl
    replace q_a_4 := B_a.cell 4 _ rfl
    replace q_a_5 := B_a.cell 5 _ rfl
    replace q_a_6 := B_a.cell 6 _ rfl
    replace q_a_7 := B_a.cell 7 _ rfl
    replace fr_a := B_a.fro
    replace z_a := B_a.lt
    clear k2
    go_wp2_with fail
    go_ret
    exact ⟨ret_bool HV.out.symm, hB⟩
  | true =>
  cases c3 with
  | false =>
    replace HV : Hid (baseOkB x = false) := HV.out.trans (by simp)
    have B_a : Box (w.alloc (.cells #[.slice H.Mem.Heap.Bytes.a H.Mem.Heap.Bytes.len H.Mem.Heap.Bytes.cap, .slice H.Mem.Heap.Class.a H.Mem.Heap.Class.len H.Mem.Heap.Class.cap, .slice H.Mem.Lists.Global.a H.Mem.Lists.Global.len H.Mem.Lists.Global.cap, .slice H.Mem.Lists.Own.a H.Mem.Lists.Own.len H.Mem.Lists.Own.cap, .int .i64 x.Clock.Epoch, .slice H.Clock.Pins.a H.Clock.Pins.len H.Clock.Pins.cap, .slice H.Limbo.a H.Limbo.len H.Limbo.cap, .slice H.Haz.a H.Haz.len H.Haz.cap] 37)) (w.heap.size) [.slice H.Mem.Heap.Bytes.a H.Mem.Heap.Bytes.len H.Mem.Heap.Bytes.cap, .slice H.Mem.Heap.Class.a H.Mem.Heap.Class.len H.Mem.Heap.Class.cap, .slice H.Mem.Lists.Global.a H.Mem.Lists.Global.len H.Mem.Lists.Global.cap, .slice H.Mem.Lists.Own.a H.Mem.Lists.Own.len H.Mem.Lists.Own.cap, .int .i64 x.Clock.Epoch, .slice H.Clock.Pins.a H.Clock.Pins.len H.Clock.Pins.cap, .slice H.Limbo.a H.Limbo.len H.Limbo.cap, .slice H.Haz.a H.Haz.len H.Haz.cap] := by
      have hbx := Box.new w #[.slice H.Mem.Heap.Bytes.a H.Mem.Heap.Bytes.len H.Mem.Heap.Bytes.cap, .slice H.Mem.Heap.Class.a H.Mem.Heap.Class.len H.Mem.Heap.Class.cap, .slice H.Mem.Lists.Global.a H.Mem.Lists.Global.len H.Mem.Lists.Global.cap, .slice H.Mem.Lists.Own.a H.Mem.Lists.Own.len H.Mem.Lists.Own.cap, .int .i64 x.Clock.Epoch, .slice H.Clock.Pins.a H.Clock.Pins.len H.Clock.Pins.cap, .slice H.Limbo.a H.Limbo.len H.Limbo.cap, .slice H.Haz.a H.Haz.len H.Haz.cap] 37
      exact hbx
    have hB : Below w.heap.size w (w.alloc (.cells #[.slice H.Mem.Heap.Bytes.a H.Mem.Heap.Bytes.len H.Mem.Heap.Bytes.cap, .slice H.Mem.Heap.Class.a H.Mem.Heap.Class.len H.Mem.Heap.Class.cap, .slice H.Mem.Lists.Global.a H.Mem.Lists.Global.len H.Mem.Lists.Global.cap, .slice H.Mem.Lists.Own.a H.Mem.Lists.Own.len H.Mem.Lists.Own.cap, .int .i64 x.Clock.Epoch, .slice H.Clock.Pins.a H.Clock.Pins.len H.Clock.Pins.cap, .slice H.Limbo.a H.Limbo.len H.Limbo.cap, .slice H.Haz.a H.Haz.len H.Haz.cap] 37)) := by repeat (first | exact Below.refl _ _ | refine Below.alloc ?_ (by simp <;> omega) _ | refine below_grow_of ?_ (by simp <;> omega) _ _ | refine Below.drew ?_ | refine below_drewN ?_ _)
    go_enter Tryz.func29, Tryz.ntmps29
    go_wp2_with fail
    generalize hW0 : (w.alloc (.cells #[.slice H.Mem.Heap.Bytes.a H.Mem.Heap.Bytes.len H.Mem.Heap.Bytes.cap, .slice H.Mem.Heap.Class.a H.Mem.Heap.Class.len H.Mem.Heap.Class.cap, .slice H.Mem.Lists.Global.a H.Mem.Lists.Global.len H.Mem.Lists.Global.cap, .slice H.Mem.Lists.Own.a H.Mem.Lists.Own.len H.Mem.Lists.Own.cap, .int .i64 x.Clock.Epoch, .slice H.Clock.Pins.a H.Clock.Pins.len H.Clock.Pins.cap, .slice H.Limbo.a H.Limbo.len H.Limbo.cap, .slice H.Haz.a H.Haz.len H.Haz.cap] 37)) = w0 at B_a hB ⊢
    clear hW0
    have zz_a := B_a.lt
    have q_a_0 := B_a.cell 0 _ rfl
    have q_a_1 := B_a.cell 1 _ rfl
    have q_a_2 := B_a.cell 2 _ rfl
    have q_a_3 := B_a.cell 3 _ rfl
    have q_a_4 := B_a.cell 4 _ rfl
    have q_a_5 := B_a.cell 5 _ rfl
    have q_a_6 := B_a.cell 6 _ rfl
    have q_a_7 := B_a.cell 7 _ rfl
    have fr_a := B_a.fro
    have z_a := B_a.lt
    refine (k0 _ hB).mono ?_
    rintro e w1 ⟨rfl, hb⟩
    replace B_a := B_a.below hb
    replace hB := hB.trans (hb.mono hB.size)
    have sz := hb.size
    clear hb
    replace q_a_0 := B_a.cell 0 _ rfl
    replace q_a_1 := B_a.cell 1 _ rfl
    replace q_a_2 := B_a.cell 2 _ rfl
    replace q_a_3 := B_a.cell 3 _ rfl
    replace q_a_4 := B_a.cell 4 _ rfl
    replace q_a_5 := B_a.cell 5 _ rfl
    replace q_a_6 := B_a.cell 6 _ rfl
    replace q_a_7 := B_a.cell 7 _ rfl
    replace fr_a := B_a.fro
    replace z_a := B_a.lt
    clear k0
    go_wp2_with fail
    refine (k1 _ hB).mono ?_
    rintro e w2 ⟨rfl, hb⟩
    replace B_a := B_a.below hb
    replace hB := hB.trans (hb.mono hB.size)
    have sz := hb.size
    clear hb
    replace q_a_0 := B_a.cell 0 _ rfl
    replace q_a_1 := B_a.cell 1 _ rfl
    replace q_a_2 := B_a.cell 2 _ rfl
    replace q_a_3 := B_a.cell 3 _ rfl
    replace q_a_4 := B_a.cell 4 _ rfl
    replace q_a_5 := B_a.cell 5 _ rfl
    replace q_a_6 := B_a.cell 6 _ rfl
    replace q_a_7 := B_a.cell 7 _ rfl
    replace fr_a := B_a.fro
    replace z_a := B_a.lt
    clear k1
    go_wp2_with fail
    refine (k2 _ hB).mono ?_
    rintro e w3 ⟨rfl, hb⟩
    replace B_a := B_a.below hb
    replace hB := hB.trans (hb.mono hB.size)
    have sz := hb.size
    clear hb
    replace q_a_0 := B_a.cell 0 _ rfl
    replace q_a_1 := B_a.cell 1 _ rfl
    replace q_a_2 := B_a.cell 2 _ rfl
    replace q_a_3 := B_a.cell 3 _ rfl
    replace q_a_4 := B_a.cell 4 _ rfl
    replace q_a_5 := B_a.cell 5 _ rfl
    replace q_a_6 := B_a.cell 6 _ rfl
    replace q_a_7 := B_a.cell 7 _ rfl
    replace fr_a := B_a.fro
    replace z_a := B_a.lt
    clear k2
    go_wp2_with fail
    refine (k3 _ hB).mono ?_
    rintro e w4 ⟨rfl, hb⟩
    replace B_a := B_a.below hb
    replace hB := hB.trans (hb.mono hB.size)
    have sz := hb.size
    clear hb
    replace q_a_0 := B_a.cell 0 _ rfl
    replace q_a_1 := B_a.cell 1 _ rfl
    replace q_a_2 := B_a.cell 2 _ rfl
    replace q_a_3 := B_a.cell 3 _ rfl
    replace q_a_4 := B_a.cell 4 _ rfl
    replace q_a_5 := B_a.cell 5 _ rfl
    replace q_a_6 := B_a.cell 6 _ rfl
    replace q_a_7 := B_a.cell 7 _ rfl
    replace fr_a := B_a.fro
    replace z_a := B_a.lt
    clear k3
    go_wp2_with fail
    go_ret
    exact ⟨ret_bool HV.out.symm, hB⟩
  | true =>
  have B_a : Box (w.alloc (.cells #[.slice H.Mem.Heap.Bytes.a H.Mem.Heap.Bytes.len H.Mem.Heap.Bytes.cap, .slice H.Mem.Heap.Class.a H.Mem.Heap.Class.len H.Mem.Heap.Class.cap, .slice H.Mem.Lists.Global.a H.Mem.Lists.Global.len H.Mem.Lists.Global.cap, .slice H.Mem.Lists.Own.a H.Mem.Lists.Own.len H.Mem.Lists.Own.cap, .int .i64 x.Clock.Epoch, .slice H.Clock.Pins.a H.Clock.Pins.len H.Clock.Pins.cap, .slice H.Limbo.a H.Limbo.len H.Limbo.cap, .slice H.Haz.a H.Haz.len H.Haz.cap] 37)) (w.heap.size) [.slice H.Mem.Heap.Bytes.a H.Mem.Heap.Bytes.len H.Mem.Heap.Bytes.cap, .slice H.Mem.Heap.Class.a H.Mem.Heap.Class.len H.Mem.Heap.Class.cap, .slice H.Mem.Lists.Global.a H.Mem.Lists.Global.len H.Mem.Lists.Global.cap, .slice H.Mem.Lists.Own.a H.Mem.Lists.Own.len H.Mem.Lists.Own.cap, .int .i64 x.Clock.Epoch, .slice H.Clock.Pins.a H.Clock.Pins.len H.Clock.Pins.cap, .slice H.Limbo.a H.Limbo.len H.Limbo.cap, .slice H.Haz.a H.Haz.len H.Haz.cap] := by
    have hbx := Box.new w #[.slice H.Mem.Heap.Bytes.a H.Mem.Heap.Bytes.len H.Mem.Heap.Bytes.cap, .slice H.Mem.Heap.Class.a H.Mem.Heap.Class.len H.Mem.Heap.Class.cap, .slice H.Mem.Lists.Global.a H.Mem.Lists.Global.len H.Mem.Lists.Global.cap, .slice H.Mem.Lists.Own.a H.Mem.Lists.Own.len H.Mem.Lists.Own.cap, .int .i64 x.Clock.Epoch, .slice H.Clock.Pins.a H.Clock.Pins.len H.Clock.Pins.cap, .slice H.Limbo.a H.Limbo.len H.Limbo.cap, .slice H.Haz.a H.Haz.len H.Haz.cap] 37
    exact hbx
  have hB : Below w.heap.size w (w.alloc (.cells #[.slice H.Mem.Heap.Bytes.a H.Mem.Heap.Bytes.len H.Mem.Heap.Bytes.cap, .slice H.Mem.Heap.Class.a H.Mem.Heap.Class.len H.Mem.Heap.Class.cap, .slice H.Mem.Lists.Global.a H.Mem.Lists.Global.len H.Mem.Lists.Global.cap, .slice H.Mem.Lists.Own.a H.Mem.Lists.Own.len H.Mem.Lists.Own.cap, .int .i64 x.Clock.Epoch, .slice H.Clock.Pins.a H.Clock.Pins.len H.Clock.Pins.cap, .slice H.Limbo.a H.Limbo.len H.Limbo.cap, .slice H.Haz.a H.Haz.len H.Haz.cap] 37)) := by repeat (first | exact Below.refl _ _ | refine Below.alloc ?_ (by simp <;> omega) _ | refine below_grow_of ?_ (by simp <;> omega) _ _ | refine Below.drew ?_ | refine below_drewN ?_ _)
  go_enter Tryz.func29, Tryz.ntmps29
  go_wp2_with fail
  generalize hW0 : (w.alloc (.cells #[.slice H.Mem.Heap.Bytes.a H.Mem.Heap.Bytes.len H.Mem.Heap.Bytes.cap, .slice H.Mem.Heap.Class.a H.Mem.Heap.Class.len H.Mem.Heap.Class.cap, .slice H.Mem.Lists.Global.a H.Mem.Lists.Global.len H.Mem.Lists.Global.cap, .slice H.Mem.Lists.Own.a H.Mem.Lists.Own.len H.Mem.Lists.Own.cap, .int .i64 x.Clock.Epoch, .slice H.Clock.Pins.a H.Clock.Pins.len H.Clock.Pins.cap, .slice H.Limbo.a H.Limbo.len H.Limbo.cap, .slice H.Haz.a H.Haz.len H.Haz.cap] 37)) = w0 at B_a hB ⊢
  clear hW0
  have zz_a := B_a.lt
  have q_a_0 := B_a.cell 0 _ rfl
  have q_a_1 := B_a.cell 1 _ rfl
  have q_a_2 := B_a.cell 2 _ rfl
  have q_a_3 := B_a.cell 3 _ rfl
  have q_a_4 := B_a.cell 4 _ rfl
  have q_a_5 := B_a.cell 5 _ rfl
  have q_a_6 := B_a.cell 6 _ rfl
  have q_a_7 := B_a.cell 7 _ rfl
  have fr_a := B_a.fro
  have z_a := B_a.lt
  refine (k0 _ hB).mono ?_
  rintro e w1 ⟨rfl, hb⟩
  replace B_a := B_a.below hb
  replace hB := hB.trans (hb.mono hB.size)
  have sz := hb.size
  clear hb
  replace q_a_0 := B_a.cell 0 _ rfl
  replace q_a_1 := B_a.cell 1 _ rfl
  replace q_a_2 := B_a.cell 2 _ rfl
  replace q_a_3 := B_a.cell 3 _ rfl
  replace q_a_4 := B_a.cell 4 _ rfl
  replace q_a_5 := B_a.cell 5 _ rfl
  replace q_a_6 := B_a.cell 6 _ rfl
  replace q_a_7 := B_a.cell 7 _ rfl
  replace fr_a := B_a.fro
  replace z_a := B_a.lt
  clear k0
  go_wp2_with fail
  refine (k1 _ hB).mono ?_
  rintro e w2 ⟨rfl, hb⟩
  replace B_a := B_a.below hb
  replace hB := hB.trans (hb.mono hB.size)
  have sz := hb.size
  clear hb
  replace q_a_0 := B_a.cell 0 _ rfl
  replace q_a_1 := B_a.cell 1 _ rfl
  replace q_a_2 := B_a.cell 2 _ rfl
  replace q_a_3 := B_a.cell 3 _ rfl
  replace q_a_4 := B_a.cell 4 _ rfl
  replace q_a_5 := B_a.cell 5 _ rfl
  replace q_a_6 := B_a.cell 6 _ rfl
  replace q_a_7 := B_a.cell 7 _ rfl
  replace fr_a := B_a.fro
  replace z_a := B_a.lt
  clear k1
  go_wp2_with fail
  refine (k2 _ hB).mono ?_
  rintro e w3 ⟨rfl, hb⟩
  replace B_a := B_a.below hb
  replace hB := hB.trans (hb.mono hB.size)
  have sz := hb.size
  clear hb
  replace q_a_0 := B_a.cell 0 _ rfl
  replace q_a_1 := B_a.cell 1 _ rfl
  replace q_a_2 := B_a.cell 2 _ rfl
  replace q_a_3 := B_a.cell 3 _ rfl
  replace q_a_4 := B_a.cell 4 _ rfl
  replace q_a_5 := B_a.cell 5 _ rfl
  replace q_a_6 := B_a.cell 6 _ rfl
  replace q_a_7 := B_a.cell 7 _ rfl
  replace fr_a := B_a.fro
  replace z_a := B_a.lt
  clear k2
  go_wp2_with fail
  refine (k3 _ hB).mono ?_
  rintro e w4 ⟨rfl, hb⟩
  replace B_a := B_a.below hb
  replace hB := hB.trans (hb.mono hB.size)
  have sz := hb.size
  clear hb
  replace q_a_0 := B_a.cell 0 _ rfl
  replace q_a_1 := B_a.cell 1 _ rfl
  replace q_a_2 := B_a.cell 2 _ rfl
  replace q_a_3 := B_a.cell 3 _ rfl
  replace q_a_4 := B_a.cell 4 _ rfl
  replace q_a_5 := B_a.cell 5 _ rfl
  replace q_a_6 := B_a.cell 6 _ rfl
  replace q_a_7 := B_a.cell 7 _ rfl
  replace fr_a := B_a.fro
  replace z_a := B_a.lt
  clear k3
  have hsh := HSH.out (by simp)
  have HA := Hid.mk_ (all_not_any_ (fun l : List LRow => l.all (rowLiveB x)) x.Limbo)
  go_wp2_with fail
  refine (Lim.ContainsFuncLL_ct _ _ _ x.Limbo (rdLL_up h.Limbo hB) 93 #[.pointer (some ⟨w.heap.size, 0, none⟩)] (fun l => !l.all (rowLiveB x)) (fun _ _ _ _ => by kernel_rfl) (fun A c l W hW hr => BaseOk1_impl W H x A c l w.heap.size (B_a.below hW) (rdMem_up h.Mem (hB.trans (hW.mono hB.size))) hsh hr)).mono ?_
  rintro e w9 ⟨rfl, hb9⟩
  go_wp2
  go_ret
  exact ⟨ret_bool (by rw [HV.out, HA.out]; simp), hB.trans (hb9.mono hB.size)⟩
end Go.Proofs.YtkldapdpaldbgaaGreat
