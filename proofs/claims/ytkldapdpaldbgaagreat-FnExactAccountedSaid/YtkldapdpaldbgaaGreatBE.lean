/-
  Memories: handles, the states of slots.
-/
import Derived.Test.YtkldapdpaldbgaaGreatT
import Derived.Test.YtkldapdpaldbgaaGreatL
import Derived.Deep.QuietTactic
import Derived.BigQuiet
import Derived.Deep.LoopGhost
import Derived.Deep.RegionHeld3
import Derived.Test.YtkldapdpaldbgaaGreatN
import Derived.Test.YtkldapdpaldbgaaGreatA
import Derived.WalkSpells
import Derived.Laws.Cover3
import Derived.Test.YtkldapdpaldbgaaGreatBD
namespace Go.Proofs.YtkldapdpaldbgaaGreat
open Go.RowKit
set_option maxHeartbeats 400000 in
theorem HandleOk_impl (h : Int) (w : World) : Calls Tryz.prog 148 #[.int .i64 h] w fun e w' => e = .returned (.bool (handleOkB h)) ∧ w = w' := by
  by_cases h1 : 32 ≤ h
  · by_cases h2 : h ≤ 223
    · go_enter Tryz.func148, Tryz.ntmps148
      go_wp2
      go_ret
      exact ⟨ret_bool (by simp [handleOkB, h1, h2]), rfl⟩
    · go_enter Tryz.func148, Tryz.ntmps148
      go_wp2
      go_ret
      exact ⟨ret_bool (by simp [handleOkB]; omega), rfl⟩
  · go_enter Tryz.func148, Tryz.ntmps148
    go_wp2
    go_ret
    exact ⟨ret_bool (by simp [handleOkB]; omega), rfl⟩
set_option maxHeartbeats 400000 in
theorem HandleOk_spec (h : Int) (w : World) : Calls Tryz.prog 131 #[.int .i64 h] w fun e w' => e = .returned (.bool (handleOkB h)) ∧ w = w' := by
  by_cases h1 : 32 ≤ h
  · by_cases h2 : h ≤ 223
    · go_enter Tryz.func131, Tryz.ntmps131
      go_wp2
      go_ret
      exact ⟨ret_bool (by simp [handleOkB, h1, h2]), rfl⟩
    · go_enter Tryz.func131, Tryz.ntmps131
      go_wp2
      go_ret
      exact ⟨ret_bool (by simp [handleOkB]; omega), rfl⟩
  · go_enter Tryz.func131, Tryz.ntmps131
    go_wp2
    go_ret
    exact ⟨ret_bool (by simp [handleOkB]; omega), rfl⟩
theorem handleOk_bd {h : Int} (k : handleOkB h = true) : 32 ≤ h ∧ h ≤ 223 ∧ h % 32 < 24 ∧ inB 0 23 (h % 32) = true ∧ h.tmod 32 = h % 32 ∧ h.tdiv 32 = h / 32 := by
  unfold handleOkB at k
  simp only [Bool.and_eq_true, decide_eq_true_eq] at k
  obtain ⟨⟨a, b⟩, c⟩ := k
  exact ⟨a, b, c, inB_iff.2 ⟨by omega, by omega⟩, Int.tmod_eq_emod_of_nonneg (by omega), Int.tdiv_eq_ediv_of_nonneg (by omega)⟩
set_option maxHeartbeats 400000 in
theorem HandleSlot_spec (h : Int) (w : World) (k : handleOkB h = true) : Calls Tryz.prog 79 #[.int .i64 h] w fun e w' => e = .returned (.int .i64 (h % 32)) ∧ w = w' := by
  obtain ⟨a, b, _, _, c, _⟩ := handleOk_bd k
  have HC := Hid.mk_ c
  clear c
  go_enter Tryz.func79, Tryz.ntmps79
  go_wp2_with (go_at_call 131; refine (HandleOk_spec _ _).mono ?_; rw [k]; rintro e w1 ⟨rfl, rfl⟩)
  go_ret
  exact ⟨ret_i64 (by first | rfl | rw [HC.out]), rfl⟩
set_option maxHeartbeats 400000 in
theorem HandleGen_spec (h : Int) (w : World) (k : handleOkB h = true) : Calls Tryz.prog 134 #[.int .i64 h] w fun e w' => e = .returned (.int .i64 (h / 32)) ∧ w = w' := by
  obtain ⟨a, b, _, _, _, c⟩ := handleOk_bd k
  have HC := Hid.mk_ c
  clear c
  go_enter Tryz.func134, Tryz.ntmps134
  go_wp2_with (go_at_call 131; refine (HandleOk_spec _ _).mono ?_; rw [k]; rintro e w1 ⟨rfl, rfl⟩)
  go_ret
  exact ⟨ret_i64 (by first | rfl | rw [HC.out]), rfl⟩
set_option maxRecDepth 100000 in
set_option maxHeartbeats 4000000 in
theorem stateOf_impl (w : World) (H : HMem) (x : Mem) (s : Int) (h : RdMem w w.heap.size H x) (hs : shapeB x.Heap = true) :
    Calls Tryz.prog 135 #[.agg #[.slice H.Heap.Bytes.a H.Heap.Bytes.len H.Heap.Bytes.cap, .slice H.Heap.Class.a H.Heap.Class.len H.Heap.Class.cap, .slice H.Lists.Global.a H.Lists.Global.len H.Lists.Global.cap, .slice H.Lists.Own.a H.Lists.Own.len H.Lists.Own.cap], .int .i64 s] w fun e w' => e = .returned (.int .i64 (stateB x s)) ∧ Below w.heap.size w w' := by
  have ba0 : Box (w.alloc (.cells #[.slice H.Heap.Bytes.a H.Heap.Bytes.len H.Heap.Bytes.cap, .slice H.Heap.Class.a H.Heap.Class.len H.Heap.Class.cap, .slice H.Lists.Global.a H.Lists.Global.len H.Lists.Global.cap, .slice H.Lists.Own.a H.Lists.Own.len H.Lists.Own.cap] 31)) w.heap.size [.slice H.Heap.Bytes.a H.Heap.Bytes.len H.Heap.Bytes.cap, .slice H.Heap.Class.a H.Heap.Class.len H.Heap.Class.cap, .slice H.Lists.Global.a H.Lists.Global.len H.Lists.Global.cap, .slice H.Lists.Own.a H.Lists.Own.len H.Lists.Own.cap] := Box.new w #[.slice H.Heap.Bytes.a H.Heap.Bytes.len H.Heap.Bytes.cap, .slice H.Heap.Class.a H.Heap.Class.len H.Heap.Class.cap, .slice H.Lists.Global.a H.Lists.Global.len H.Lists.Global.cap, .slice H.Lists.Own.a H.Lists.Own.len H.Lists.Own.cap] _
  have hB0 : Below w.heap.size w (w.alloc (.cells #[.slice H.Heap.Bytes.a H.Heap.Bytes.len H.Heap.Bytes.cap, .slice H.Heap.Class.a H.Heap.Class.len H.Heap.Class.cap, .slice H.Lists.Global.a H.Lists.Global.len H.Lists.Global.cap, .slice H.Lists.Own.a H.Lists.Own.len H.Lists.Own.cap] 31)) := by repeat (first | exact Below.refl _ _ | refine Below.alloc ?_ (by simp <;> omega) _ | refine below_grow_of ?_ (by simp <;> omega) _ _ | refine Below.drew ?_ | refine below_drewN ?_ _)
  have HE := Hid.mk_ (show stateB x s = (if classInB x.Heap s < 0 then 0 else if onListB x.Lists s = true then 1 else if 6 < genInB x.Heap s then 2 else 3) from rfl)
  have HS := Hid.mk_ hs
  clear hs
  go_enter Tryz.func135, Tryz.ntmps135
  go_wp2_with fail
  refine (classIn_impl _ H.Heap x.Heap s (rdHeap_up h.Heap hB0) HS.out).mono ?_
  rintro e w1 ⟨rfl, hb⟩
  have ba1 := ba0.below hb
  have hB1 := hB0.trans (hb.mono hB0.size)
  clear hb ba0 hB0
  by_cases k1 : classInB x.Heap s < 0
  · have HN := Hid.mk_ (show stateB x s = 0 by rw [HE.out, if_pos k1])
    go_wp2
    go_ret
    exact ⟨ret_i64 HN.out.symm, hB1⟩
  have K1 := Hid.mk_ k1
  have qa0 := ba1.cell 0 _ rfl
  have qa1 := ba1.cell 1 _ rfl
  have qa2 := ba1.cell 2 _ rfl
  have qa3 := ba1.cell 3 _ rfl
  go_wp2_with fail
  refine (OnList_impl _ H.Lists x.Lists s (rdLists_up h.Lists hB1)).mono ?_
  rintro e w2 ⟨rfl, hb⟩
  have ba2 := ba1.below hb
  have hB2 := hB1.trans (hb.mono hB1.size)
  clear qa0 qa1 qa2 qa3 hb ba1 hB1 k1
  by_cases k2 : onListB x.Lists s = true
  · have HN := Hid.mk_ (show stateB x s = 1 by rw [HE.out, if_neg (show ¬ classInB x.Heap s < 0 by have := K1.out; omega), if_pos k2])
    rw [k2]
    clear k2
    go_wp2
    go_ret
    exact ⟨ret_i64 HN.out.symm, hB2⟩
  have K2 := Hid.mk_ ((Bool.not_eq_true _).mp k2)
  rw [(Bool.not_eq_true _).mp k2]
  clear k2
  have qa0 := ba2.cell 0 _ rfl
  have qa1 := ba2.cell 1 _ rfl
  have qa2 := ba2.cell 2 _ rfl
  have qa3 := ba2.cell 3 _ rfl
  go_wp2_with fail
  refine (GenIn_impl _ H.Heap x.Heap s (rdHeap_up h.Heap hB2) HS.out).mono ?_
  rintro e w3 ⟨rfl, hb⟩
  have hB3 := hB2.trans (hb.mono hB2.size)
  clear qa0 qa1 qa2 qa3 hb ba2 hB2
  by_cases k3 : 6 < genInB x.Heap s
  · have HN := Hid.mk_ (show stateB x s = 2 by rw [HE.out, if_neg (show ¬ classInB x.Heap s < 0 by have := K1.out; omega), if_neg (show ¬ onListB x.Lists s = true by rw [K2.out]; decide), if_pos k3])
    go_wp2
    go_ret
    exact ⟨ret_i64 HN.out.symm, hB3⟩
  · have HN := Hid.mk_ (show stateB x s = 3 by rw [HE.out, if_neg (show ¬ classInB x.Heap s < 0 by have := K1.out; omega), if_neg (show ¬ onListB x.Lists s = true by rw [K2.out]; decide), if_neg (show ¬ 6 < genInB x.Heap s by omega)])
    go_wp2
    go_ret
    exact ⟨ret_i64 HN.out.symm, hB3⟩
set_option maxRecDepth 100000 in
set_option maxHeartbeats 4000000 in
theorem l9State_spec (w : World) (H : HMem) (x : Mem) (s : Int) (h : RdMem w w.heap.size H x) (hs : shapeB x.Heap = true) (hs1 : szLL x.Lists.Global ≤ 536870912) (hs2 : szLL x.Lists.Own ≤ 536870912) :
    Calls Tryz.prog 132 #[.agg #[.slice H.Heap.Bytes.a H.Heap.Bytes.len H.Heap.Bytes.cap, .slice H.Heap.Class.a H.Heap.Class.len H.Heap.Class.cap, .slice H.Lists.Global.a H.Lists.Global.len H.Lists.Global.cap, .slice H.Lists.Own.a H.Lists.Own.len H.Lists.Own.cap], .int .i64 s] w fun e w' => e = .returned (.int .i64 (stateB x s)) ∧ Below w.heap.size w w' := by
  have ba0 : Box (w.alloc (.cells #[.slice H.Heap.Bytes.a H.Heap.Bytes.len H.Heap.Bytes.cap, .slice H.Heap.Class.a H.Heap.Class.len H.Heap.Class.cap, .slice H.Lists.Global.a H.Lists.Global.len H.Lists.Global.cap, .slice H.Lists.Own.a H.Lists.Own.len H.Lists.Own.cap] 31)) w.heap.size [.slice H.Heap.Bytes.a H.Heap.Bytes.len H.Heap.Bytes.cap, .slice H.Heap.Class.a H.Heap.Class.len H.Heap.Class.cap, .slice H.Lists.Global.a H.Lists.Global.len H.Lists.Global.cap, .slice H.Lists.Own.a H.Lists.Own.len H.Lists.Own.cap] := Box.new w #[.slice H.Heap.Bytes.a H.Heap.Bytes.len H.Heap.Bytes.cap, .slice H.Heap.Class.a H.Heap.Class.len H.Heap.Class.cap, .slice H.Lists.Global.a H.Lists.Global.len H.Lists.Global.cap, .slice H.Lists.Own.a H.Lists.Own.len H.Lists.Own.cap] _
  have hB0 : Below w.heap.size w (w.alloc (.cells #[.slice H.Heap.Bytes.a H.Heap.Bytes.len H.Heap.Bytes.cap, .slice H.Heap.Class.a H.Heap.Class.len H.Heap.Class.cap, .slice H.Lists.Global.a H.Lists.Global.len H.Lists.Global.cap, .slice H.Lists.Own.a H.Lists.Own.len H.Lists.Own.cap] 31)) := by repeat (first | exact Below.refl _ _ | refine Below.alloc ?_ (by simp <;> omega) _ | refine below_grow_of ?_ (by simp <;> omega) _ _ | refine Below.drew ?_ | refine below_drewN ?_ _)
  have HE := Hid.mk_ (show stateB x s = (if classInB x.Heap s < 0 then 0 else if onListB x.Lists s = true then 1 else if 6 < genInB x.Heap s then 2 else 3) from rfl)
  have HS := Hid.mk_ hs
  clear hs
  go_enter Tryz.func132, Tryz.ntmps132
  go_wp2_with fail
  refine (l7Class_spec _ H.Heap x.Heap s (rdHeap_up h.Heap hB0) HS.out).mono ?_
  rintro e w1 ⟨rfl, hb⟩
  have ba1 := ba0.below hb
  have hB1 := hB0.trans (hb.mono hB0.size)
  clear hb ba0 hB0
  by_cases k1 : classInB x.Heap s < 0
  · have HN := Hid.mk_ (show stateB x s = 0 by rw [HE.out, if_pos k1])
    go_wp2
    go_ret
    exact ⟨ret_i64 HN.out.symm, hB1⟩
  have K1 := Hid.mk_ k1
  have qa0 := ba1.cell 0 _ rfl
  have qa1 := ba1.cell 1 _ rfl
  have qa2 := ba1.cell 2 _ rfl
  have qa3 := ba1.cell 3 _ rfl
  go_wp2_with fail
  refine (OnList_spec _ H.Lists x.Lists s (rdLists_up h.Lists hB1) hs1 hs2).mono ?_
  rintro e w2 ⟨rfl, hb⟩
  have ba2 := ba1.below hb
  have hB2 := hB1.trans (hb.mono hB1.size)
  clear qa0 qa1 qa2 qa3 hb ba1 hB1 k1
  by_cases k2 : onListB x.Lists s = true
  · have HN := Hid.mk_ (show stateB x s = 1 by rw [HE.out, if_neg (show ¬ classInB x.Heap s < 0 by have := K1.out; omega), if_pos k2])
    rw [k2]
    clear k2
    go_wp2
    go_ret
    exact ⟨ret_i64 HN.out.symm, hB2⟩
  have K2 := Hid.mk_ ((Bool.not_eq_true _).mp k2)
  rw [(Bool.not_eq_true _).mp k2]
  clear k2
  have qa0 := ba2.cell 0 _ rfl
  have qa1 := ba2.cell 1 _ rfl
  have qa2 := ba2.cell 2 _ rfl
  have qa3 := ba2.cell 3 _ rfl
  go_wp2_with fail
  refine (l7Gen_spec _ H.Heap x.Heap s (rdHeap_up h.Heap hB2) HS.out (by have := K1.out; omega)).mono ?_
  rintro e w3 ⟨rfl, hb⟩
  have hB3 := hB2.trans (hb.mono hB2.size)
  clear qa0 qa1 qa2 qa3 hb ba2 hB2
  by_cases k3 : 6 < genInB x.Heap s
  · have HN := Hid.mk_ (show stateB x s = 2 by rw [HE.out, if_neg (show ¬ classInB x.Heap s < 0 by have := K1.out; omega), if_neg (show ¬ onListB x.Lists s = true by rw [K2.out]; decide), if_pos k3])
    go_wp2
    go_ret
    exact ⟨ret_i64 HN.out.symm, hB3⟩
  · have HN := Hid.mk_ (show stateB x s = 3 by rw [HE.out, if_neg (show ¬ classInB x.Heap s < 0 by have := K1.out; omega), if_neg (show ¬ onListB x.Lists s = true by rw [K2.out]; decide), if_neg (show ¬ 6 < genInB x.Heap s by omega)])
    go_wp2
    go_ret
    exact ⟨ret_i64 HN.out.symm, hB3⟩
theorem state_cls {x : Mem} {s : Int} (h : stateB x s ≠ 0) : ¬ classInB x.Heap s < 0 := fun k => h (if_pos k)
theorem state_bd (x : Mem) (s : Int) : stateB x s = 0 ∨ stateB x s = 1 ∨ stateB x s = 2 ∨ stateB x s = 3 := by
  unfold stateB
  repeat' split
  all_goals simp
end Go.Proofs.YtkldapdpaldbgaaGreat
