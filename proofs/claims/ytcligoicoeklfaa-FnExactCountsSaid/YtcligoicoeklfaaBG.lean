/-
  Memories: the state of a slot, valid handles: the contracts.
-/
import Derived.Test.YtcligoicoeklfaaT
import Derived.Test.YtcligoicoeklfaaL
import Derived.Deep.QuietTactic
import Derived.BigQuiet
import Derived.Deep.LoopGhost
import Derived.Deep.RegionHeld3
import Derived.Test.YtcligoicoeklfaaN
import Derived.Test.YtcligoicoeklfaaA
import Derived.WalkSpells
import Derived.Laws.Cover3
import Derived.Test.YtcligoicoeklfaaBF
namespace Go.Proofs.Ytcligoicoeklfaa
open Go.RowKit
def stateOfB (m : Mem) (s : Int) : Int := if memOkB m = true then stateB m s else 0
def validB (m : Mem) (h : Int) : Bool := memOkB m && liveB m h
theorem mem_shape {m : Mem} (k : memOkB m = true) : shapeB m.Heap = true := heap_shape (mem_heap k)
theorem validB_no {m : Mem} (k : memOkB m = false) (h : Int) : validB m h = false := by unfold validB; rw [k]; rfl
theorem validB_yes {m : Mem} (k : memOkB m = true) (h : Int) : validB m h = liveB m h := by unfold validB; rw [k]; rfl
set_option maxRecDepth 100000 in
set_option maxHeartbeats 1000000 in
theorem StateOf_impl (w : World) (H : HMem) (x : Mem) (s : Int) (h : RdMem w w.heap.size H x) :
    Calls Try.prog 12 #[.agg #[.slice H.Heap.Bytes.a H.Heap.Bytes.len H.Heap.Bytes.cap, .slice H.Heap.Class.a H.Heap.Class.len H.Heap.Class.cap, .slice H.Lists.Global.a H.Lists.Global.len H.Lists.Global.cap, .slice H.Lists.Own.a H.Lists.Own.len H.Lists.Own.cap], .int .i64 s] w fun e w' => e = .returned (.int .i64 (stateOfB x s)) ∧ Below w.heap.size w w' := by
  have ba0 : Box (w.alloc (.cells #[.slice H.Heap.Bytes.a H.Heap.Bytes.len H.Heap.Bytes.cap, .slice H.Heap.Class.a H.Heap.Class.len H.Heap.Class.cap, .slice H.Lists.Global.a H.Lists.Global.len H.Lists.Global.cap, .slice H.Lists.Own.a H.Lists.Own.len H.Lists.Own.cap] 37)) w.heap.size [.slice H.Heap.Bytes.a H.Heap.Bytes.len H.Heap.Bytes.cap, .slice H.Heap.Class.a H.Heap.Class.len H.Heap.Class.cap, .slice H.Lists.Global.a H.Lists.Global.len H.Lists.Global.cap, .slice H.Lists.Own.a H.Lists.Own.len H.Lists.Own.cap] := Box.new w #[.slice H.Heap.Bytes.a H.Heap.Bytes.len H.Heap.Bytes.cap, .slice H.Heap.Class.a H.Heap.Class.len H.Heap.Class.cap, .slice H.Lists.Global.a H.Lists.Global.len H.Lists.Global.cap, .slice H.Lists.Own.a H.Lists.Own.len H.Lists.Own.cap] _
  have hB0 : Below w.heap.size w (w.alloc (.cells #[.slice H.Heap.Bytes.a H.Heap.Bytes.len H.Heap.Bytes.cap, .slice H.Heap.Class.a H.Heap.Class.len H.Heap.Class.cap, .slice H.Lists.Global.a H.Lists.Global.len H.Lists.Global.cap, .slice H.Lists.Own.a H.Lists.Own.len H.Lists.Own.cap] 37)) := by repeat (first | exact Below.refl _ _ | refine Below.alloc ?_ (by simp <;> omega) _ | refine below_grow_of ?_ (by simp <;> omega) _ _ | refine Below.drew ?_ | refine below_drewN ?_ _)
  by_cases k1 : memOkB x = true
  case neg =>
    have k1' : memOkB x = false := (Bool.not_eq_true _).mp k1
    have HN := Hid.mk_ (show stateOfB x s = 0 from if_neg k1)
    clear k1
    go_enter Try.func12, Try.ntmps12
    go_wp2_with fail
    refine (MemOk_impl _ H x (rdMem_up h hB0)).mono ?_
    rw [k1']
    rintro e w1 ⟨rfl, hb⟩
    have hB1 := hB0.trans (hb.mono hB0.size)
    clear hb ba0 hB0
    go_wp2
    go_ret
    exact ⟨ret_i64 HN.out.symm, hB1⟩
  have HN := Hid.mk_ (show stateOfB x s = stateB x s from if_pos k1)
  have HS := Hid.mk_ (mem_shape k1)
  go_enter Try.func12, Try.ntmps12
  go_wp2_with fail
  refine (MemOk_impl _ H x (rdMem_up h hB0)).mono ?_
  rw [k1]
  rintro e w1 ⟨rfl, hb⟩
  have ba1 := ba0.below hb
  have hB1 := hB0.trans (hb.mono hB0.size)
  clear hb ba0 hB0 k1
  have qa0 := ba1.cell 0 _ rfl
  have qa1 := ba1.cell 1 _ rfl
  have qa2 := ba1.cell 2 _ rfl
  have qa3 := ba1.cell 3 _ rfl
  go_wp2_with fail
  refine (stateOf_impl _ H x s (rdMem_up h hB1) HS.out).mono ?_
  rintro e w2 ⟨rfl, hb⟩
  have hB2 := hB1.trans (hb.mono hB1.size)
  clear qa0 qa1 qa2 qa3 hb ba1 hB1
  go_wp2
  go_ret
  exact ⟨ret_i64 HN.out.symm, hB2⟩
set_option maxRecDepth 100000 in
set_option maxHeartbeats 1000000 in
theorem Valid_impl (w : World) (H : HMem) (x : Mem) (s : Int) (h : RdMem w w.heap.size H x) :
    Calls Try.prog 20 #[.agg #[.slice H.Heap.Bytes.a H.Heap.Bytes.len H.Heap.Bytes.cap, .slice H.Heap.Class.a H.Heap.Class.len H.Heap.Class.cap, .slice H.Lists.Global.a H.Lists.Global.len H.Lists.Global.cap, .slice H.Lists.Own.a H.Lists.Own.len H.Lists.Own.cap], .int .i64 s] w fun e w' => e = .returned (.bool (validB x s)) ∧ Below w.heap.size w w' := by
  have ba0 : Box (w.alloc (.cells #[.slice H.Heap.Bytes.a H.Heap.Bytes.len H.Heap.Bytes.cap, .slice H.Heap.Class.a H.Heap.Class.len H.Heap.Class.cap, .slice H.Lists.Global.a H.Lists.Global.len H.Lists.Global.cap, .slice H.Lists.Own.a H.Lists.Own.len H.Lists.Own.cap] 37)) w.heap.size [.slice H.Heap.Bytes.a H.Heap.Bytes.len H.Heap.Bytes.cap, .slice H.Heap.Class.a H.Heap.Class.len H.Heap.Class.cap, .slice H.Lists.Global.a H.Lists.Global.len H.Lists.Global.cap, .slice H.Lists.Own.a H.Lists.Own.len H.Lists.Own.cap] := Box.new w #[.slice H.Heap.Bytes.a H.Heap.Bytes.len H.Heap.Bytes.cap, .slice H.Heap.Class.a H.Heap.Class.len H.Heap.Class.cap, .slice H.Lists.Global.a H.Lists.Global.len H.Lists.Global.cap, .slice H.Lists.Own.a H.Lists.Own.len H.Lists.Own.cap] _
  have hB0 : Below w.heap.size w (w.alloc (.cells #[.slice H.Heap.Bytes.a H.Heap.Bytes.len H.Heap.Bytes.cap, .slice H.Heap.Class.a H.Heap.Class.len H.Heap.Class.cap, .slice H.Lists.Global.a H.Lists.Global.len H.Lists.Global.cap, .slice H.Lists.Own.a H.Lists.Own.len H.Lists.Own.cap] 37)) := by repeat (first | exact Below.refl _ _ | refine Below.alloc ?_ (by simp <;> omega) _ | refine below_grow_of ?_ (by simp <;> omega) _ _ | refine Below.drew ?_ | refine below_drewN ?_ _)
  by_cases k1 : memOkB x = true
  case neg =>
    have k1' : memOkB x = false := (Bool.not_eq_true _).mp k1
    have HN := Hid.mk_ (validB_no k1' s)
    clear k1
    go_enter Try.func20, Try.ntmps20
    go_wp2_with fail
    refine (MemOk_impl _ H x (rdMem_up h hB0)).mono ?_
    rw [k1']
    rintro e w1 ⟨rfl, hb⟩
    have hB1 := hB0.trans (hb.mono hB0.size)
    clear hb ba0 hB0
    go_wp2
    go_ret
    exact ⟨ret_bool HN.out.symm, hB1⟩
  have HN := Hid.mk_ (validB_yes k1 s)
  have HS := Hid.mk_ (mem_shape k1)
  go_enter Try.func20, Try.ntmps20
  go_wp2_with fail
  refine (MemOk_impl _ H x (rdMem_up h hB0)).mono ?_
  rw [k1]
  rintro e w1 ⟨rfl, hb⟩
  have ba1 := ba0.below hb
  have hB1 := hB0.trans (hb.mono hB0.size)
  clear hb ba0 hB0 k1
  have qa0 := ba1.cell 0 _ rfl
  have qa1 := ba1.cell 1 _ rfl
  have qa2 := ba1.cell 2 _ rfl
  have qa3 := ba1.cell 3 _ rfl
  go_wp2_with fail
  refine (isLive_impl _ H x s (rdMem_up h hB1) HS.out).mono ?_
  rintro e w2 ⟨rfl, hb⟩
  have hB2 := hB1.trans (hb.mono hB1.size)
  clear qa0 qa1 qa2 qa3 hb ba1 hB1
  go_wp2
  go_ret
  exact ⟨ret_bool HN.out.symm, hB2⟩
set_option maxRecDepth 100000 in
set_option maxHeartbeats 1000000 in
theorem StateOf_spec (w : World) (H : HMem) (x : Mem) (s : Int) (h : RdMem w w.heap.size H x) (hs1 : szLL x.Lists.Global ≤ 536870912) (hs2 : szLL x.Lists.Own ≤ 536870912) :
    Calls Try.prog 10 #[.agg #[.slice H.Heap.Bytes.a H.Heap.Bytes.len H.Heap.Bytes.cap, .slice H.Heap.Class.a H.Heap.Class.len H.Heap.Class.cap, .slice H.Lists.Global.a H.Lists.Global.len H.Lists.Global.cap, .slice H.Lists.Own.a H.Lists.Own.len H.Lists.Own.cap], .int .i64 s] w fun e w' => e = .returned (.int .i64 (stateOfB x s)) ∧ Below w.heap.size w w' := by
  have ba0 : Box (w.alloc (.cells #[.slice H.Heap.Bytes.a H.Heap.Bytes.len H.Heap.Bytes.cap, .slice H.Heap.Class.a H.Heap.Class.len H.Heap.Class.cap, .slice H.Lists.Global.a H.Lists.Global.len H.Lists.Global.cap, .slice H.Lists.Own.a H.Lists.Own.len H.Lists.Own.cap] 37)) w.heap.size [.slice H.Heap.Bytes.a H.Heap.Bytes.len H.Heap.Bytes.cap, .slice H.Heap.Class.a H.Heap.Class.len H.Heap.Class.cap, .slice H.Lists.Global.a H.Lists.Global.len H.Lists.Global.cap, .slice H.Lists.Own.a H.Lists.Own.len H.Lists.Own.cap] := Box.new w #[.slice H.Heap.Bytes.a H.Heap.Bytes.len H.Heap.Bytes.cap, .slice H.Heap.Class.a H.Heap.Class.len H.Heap.Class.cap, .slice H.Lists.Global.a H.Lists.Global.len H.Lists.Global.cap, .slice H.Lists.Own.a H.Lists.Own.len H.Lists.Own.cap] _
  have hB0 : Below w.heap.size w (w.alloc (.cells #[.slice H.Heap.Bytes.a H.Heap.Bytes.len H.Heap.Bytes.cap, .slice H.Heap.Class.a H.Heap.Class.len H.Heap.Class.cap, .slice H.Lists.Global.a H.Lists.Global.len H.Lists.Global.cap, .slice H.Lists.Own.a H.Lists.Own.len H.Lists.Own.cap] 37)) := by repeat (first | exact Below.refl _ _ | refine Below.alloc ?_ (by simp <;> omega) _ | refine below_grow_of ?_ (by simp <;> omega) _ _ | refine Below.drew ?_ | refine below_drewN ?_ _)
  by_cases k1 : memOkB x = true
  case neg =>
    have k1' : memOkB x = false := (Bool.not_eq_true _).mp k1
    have HN := Hid.mk_ (show stateOfB x s = 0 from if_neg k1)
    clear k1
    go_enter Try.func10, Try.ntmps10
    go_wp2_with fail
    refine (MemOk_spec _ H x (rdMem_up h hB0) hs1 hs2).mono ?_
    rw [k1']
    rintro e w1 ⟨rfl, hb⟩
    have hB1 := hB0.trans (hb.mono hB0.size)
    clear hb ba0 hB0
    go_wp2
    go_ret
    exact ⟨ret_i64 HN.out.symm, hB1⟩
  have HN := Hid.mk_ (show stateOfB x s = stateB x s from if_pos k1)
  have HS := Hid.mk_ (mem_shape k1)
  go_enter Try.func10, Try.ntmps10
  go_wp2_with fail
  refine (MemOk_spec _ H x (rdMem_up h hB0) hs1 hs2).mono ?_
  rw [k1]
  rintro e w1 ⟨rfl, hb⟩
  have ba1 := ba0.below hb
  have hB1 := hB0.trans (hb.mono hB0.size)
  clear hb ba0 hB0 k1
  have qa0 := ba1.cell 0 _ rfl
  have qa1 := ba1.cell 1 _ rfl
  have qa2 := ba1.cell 2 _ rfl
  have qa3 := ba1.cell 3 _ rfl
  go_wp2_with fail
  refine (l9State_spec _ H x s (rdMem_up h hB1) HS.out hs1 hs2).mono ?_
  rintro e w2 ⟨rfl, hb⟩
  have hB2 := hB1.trans (hb.mono hB1.size)
  clear qa0 qa1 qa2 qa3 hb ba1 hB1
  go_wp2
  go_ret
  exact ⟨ret_i64 HN.out.symm, hB2⟩
set_option maxRecDepth 100000 in
set_option maxHeartbeats 1000000 in
theorem Valid_spec (w : World) (H : HMem) (x : Mem) (s : Int) (h : RdMem w w.heap.size H x) (hs1 : szLL x.Lists.Global ≤ 536870912) (hs2 : szLL x.Lists.Own ≤ 536870912) :
    Calls Try.prog 19 #[.agg #[.slice H.Heap.Bytes.a H.Heap.Bytes.len H.Heap.Bytes.cap, .slice H.Heap.Class.a H.Heap.Class.len H.Heap.Class.cap, .slice H.Lists.Global.a H.Lists.Global.len H.Lists.Global.cap, .slice H.Lists.Own.a H.Lists.Own.len H.Lists.Own.cap], .int .i64 s] w fun e w' => e = .returned (.bool (validB x s)) ∧ Below w.heap.size w w' := by
  have ba0 : Box (w.alloc (.cells #[.slice H.Heap.Bytes.a H.Heap.Bytes.len H.Heap.Bytes.cap, .slice H.Heap.Class.a H.Heap.Class.len H.Heap.Class.cap, .slice H.Lists.Global.a H.Lists.Global.len H.Lists.Global.cap, .slice H.Lists.Own.a H.Lists.Own.len H.Lists.Own.cap] 37)) w.heap.size [.slice H.Heap.Bytes.a H.Heap.Bytes.len H.Heap.Bytes.cap, .slice H.Heap.Class.a H.Heap.Class.len H.Heap.Class.cap, .slice H.Lists.Global.a H.Lists.Global.len H.Lists.Global.cap, .slice H.Lists.Own.a H.Lists.Own.len H.Lists.Own.cap] := Box.new w #[.slice H.Heap.Bytes.a H.Heap.Bytes.len H.Heap.Bytes.cap, .slice H.Heap.Class.a H.Heap.Class.len H.Heap.Class.cap, .slice H.Lists.Global.a H.Lists.Global.len H.Lists.Global.cap, .slice H.Lists.Own.a H.Lists.Own.len H.Lists.Own.cap] _
  have hB0 : Below w.heap.size w (w.alloc (.cells #[.slice H.Heap.Bytes.a H.Heap.Bytes.len H.Heap.Bytes.cap, .slice H.Heap.Class.a H.Heap.Class.len H.Heap.Class.cap, .slice H.Lists.Global.a H.Lists.Global.len H.Lists.Global.cap, .slice H.Lists.Own.a H.Lists.Own.len H.Lists.Own.cap] 37)) := by repeat (first | exact Below.refl _ _ | refine Below.alloc ?_ (by simp <;> omega) _ | refine below_grow_of ?_ (by simp <;> omega) _ _ | refine Below.drew ?_ | refine below_drewN ?_ _)
  by_cases k1 : memOkB x = true
  case neg =>
    have k1' : memOkB x = false := (Bool.not_eq_true _).mp k1
    have HN := Hid.mk_ (validB_no k1' s)
    clear k1
    go_enter Try.func19, Try.ntmps19
    go_wp2_with fail
    refine (MemOk_spec _ H x (rdMem_up h hB0) hs1 hs2).mono ?_
    rw [k1']
    rintro e w1 ⟨rfl, hb⟩
    have hB1 := hB0.trans (hb.mono hB0.size)
    clear hb ba0 hB0
    go_wp2
    go_ret
    exact ⟨ret_bool HN.out.symm, hB1⟩
  have HN := Hid.mk_ (validB_yes k1 s)
  have HS := Hid.mk_ (mem_shape k1)
  go_enter Try.func19, Try.ntmps19
  go_wp2_with fail
  refine (MemOk_spec _ H x (rdMem_up h hB0) hs1 hs2).mono ?_
  rw [k1]
  rintro e w1 ⟨rfl, hb⟩
  have ba1 := ba0.below hb
  have hB1 := hB0.trans (hb.mono hB0.size)
  clear hb ba0 hB0 k1
  have qa0 := ba1.cell 0 _ rfl
  have qa1 := ba1.cell 1 _ rfl
  have qa2 := ba1.cell 2 _ rfl
  have qa3 := ba1.cell 3 _ rfl
  go_wp2_with fail
  refine (l9Valid_spec _ H x s (rdMem_up h hB1) HS.out hs1 hs2).mono ?_
  rintro e w2 ⟨rfl, hb⟩
  have hB2 := hB1.trans (hb.mono hB1.size)
  clear qa0 qa1 qa2 qa3 hb ba1 hB1
  go_wp2
  go_ret
  exact ⟨ret_bool HN.out.symm, hB2⟩
end Go.Proofs.Ytcligoicoeklfaa
