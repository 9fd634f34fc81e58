/-
  Heaps valid: the contracts.
-/
import Derived.Test.YtkldapdpaldbgaaGreatT
import Derived.Test.YtkldapdpaldbgaaGreatL
import Derived.Deep.QuietTactic
import Derived.BigQuiet
import Derived.Deep.LoopGhost
import Derived.Deep.RegionHeld3
import Derived.Test.YtkldapdpaldbgaaGreatN
import Derived.Test.YtkldapdpaldbgaaGreatA
import Derived.WalkSpells
import Derived.Laws.Cover3
import Derived.Test.YtkldapdpaldbgaaGreatB5
namespace Go.Proofs.YtkldapdpaldbgaaGreat
open Go.RowKit

set_option maxRecDepth 100000 in
set_option maxHeartbeats 1000000 in
theorem HeapOk_impl (w : World) (H : HHeap) (x : Heap) (h : RdHeap w w.heap.size H x) :
    Calls Tryz.prog 163 #[.agg #[.slice H.Bytes.a H.Bytes.len H.Bytes.cap, .slice H.Class.a H.Class.len H.Class.cap]] w fun e w' => e = .returned (.bool (heapOkB x)) ∧ Below w.heap.size w w' := by
  obtain ⟨⟨A1, n1, c1⟩, ⟨A2, n2, c2⟩⟩ := H
  obtain ⟨bs, cs⟩ := x
  have hr1 : RdL FI w w.heap.size (.slice A1 n1 c1) bs := h.Bytes
  have hr2 : RdL FI w w.heap.size (.slice A2 n2 c2) cs := h.Class
  obtain ⟨_, _, hv, q1, q2, qx⟩ := id hr1
  simp only [Value.slice.injEq] at hv
  obtain ⟨rfl, rfl, rfl⟩ := hv
  have hlt1 : bs.length ≤ 9223372036854775807 := by unfold maxLen at q2; omega
  clear q1 q2 qx
  obtain ⟨_, _, hv, q1, q2, qx⟩ := id hr2
  simp only [Value.slice.injEq] at hv
  obtain ⟨rfl, rfl, rfl⟩ := hv
  have hlt2 : cs.length ≤ 9223372036854775807 := by unfold maxLen at q2; omega
  clear q1 q2 qx h
  have HE := Hid.mk_ (show heapOkB ⟨bs, cs⟩ = (shapeB ⟨bs, cs⟩ && (List.range 6).all (pageOkB ⟨bs, cs⟩)) from rfl)
  show Calls Tryz.prog 163 #[.agg #[.slice A1 bs.length c1, .slice A2 cs.length c2]] _ _
  by_cases hs : shapeB ⟨bs, cs⟩ = true
  case neg =>
    have HT := Hid.mk_ ((Bool.not_eq_true _).mp hs)
    clear hs
    go_enter Tryz.func163, Tryz.ntmps163
    go_wp2_with (go_at_call 238; refine (shaped_impl _ ⟨⟨A1, bs.length, c1⟩, ⟨A2, cs.length, c2⟩⟩ ⟨bs, cs⟩ ⟨rd_up hr1 (by repeat (first | exact Below.refl _ _ | refine Below.alloc ?_ (by simp <;> omega) _ | refine below_grow_of ?_ (by simp <;> omega) _ _ | refine Below.drew ?_ | refine below_drewN ?_ _)), rd_up hr2 (by repeat (first | exact Below.refl _ _ | refine Below.alloc ?_ (by simp <;> omega) _ | refine below_grow_of ?_ (by simp <;> omega) _ _ | refine Below.drew ?_ | refine below_drewN ?_ _))⟩).mono ?_; rw [HT.out]; rintro e w1 ⟨rfl, hb1⟩; obtain ⟨os1, d1, rfl⟩ := below_grows hb1; clear hb1)
    go_ret
    exact ⟨ret_bool (by rw [HE.out, HT.out]; rfl), by repeat (first | exact Below.refl _ _ | refine Below.alloc ?_ (by simp <;> omega) _ | refine below_grow_of ?_ (by simp <;> omega) _ _ | refine Below.drew ?_ | refine below_drewN ?_ _)⟩
  have HS := Hid.mk_ hs
  clear hs
  go_enter Tryz.func163, Tryz.ntmps163
  go_wp2_with fail
  refine (shaped_impl _ ⟨⟨A1, bs.length, c1⟩, ⟨A2, cs.length, c2⟩⟩ ⟨bs, cs⟩ ⟨rd_up hr1 (by repeat (first | exact Below.refl _ _ | refine Below.alloc ?_ (by simp <;> omega) _ | refine below_grow_of ?_ (by simp <;> omega) _ _ | refine Below.drew ?_ | refine below_drewN ?_ _)), rd_up hr2 (by repeat (first | exact Below.refl _ _ | refine Below.alloc ?_ (by simp <;> omega) _ | refine below_grow_of ?_ (by simp <;> omega) _ _ | refine Below.drew ?_ | refine below_drewN ?_ _))⟩).mono ?_
  rw [HS.out]
  rintro e w1 ⟨rfl, hb1⟩
  have q0 : w1.cell? ⟨w.heap.size, 0, none⟩ = some (.slice A1 bs.length c1) := cell_up hb1 (by simp <;> omega) (by simp [go_sem])
  have q1 : w1.cell? ⟨w.heap.size, 1, none⟩ = some (.slice A2 cs.length c2) := cell_up hb1 (by simp <;> omega) (by simp [go_sem])
  have hB1 : Below w.heap.size w w1 := Below.trans (by repeat (first | exact Below.refl _ _ | refine Below.alloc ?_ (by simp <;> omega) _ | refine below_grow_of ?_ (by simp <;> omega) _ _ | refine Below.drew ?_ | refine below_drewN ?_ _)) (hb1.mono (by simp))
  have z1 : w.heap.size < w1.heap.size := by have := hb1.size; simp at this; omega
  clear hb1
  go_wp2
  go_loopw [3, 7] (fun _ i wr => ∃ k : Nat, k ≤ 6 ∧ i = .int .i64 k ∧ Hid ((List.range k).all (pageOkB ⟨bs, cs⟩) = true) ∧ Below w.heap.size w wr ∧ wr.cell? ⟨w.heap.size, 0, none⟩ = some (.slice A1 bs.length c1) ∧ wr.cell? ⟨w.heap.size, 1, none⟩ = some (.slice A2 cs.length c2) ∧ w.heap.size < wr.heap.size) (fun _ i _ => 6 - (intOf i).toNat)
  case atStart => exact ⟨0, Nat.zero_le _, rfl, rfl, hB1, q0, q1, z1⟩
  case round =>
    obtain ⟨i, hi, rfl, HT, hb, r0, r1, hz⟩ := hrel
    clear q0 q1 hB1 z1
    by_cases hlt : i < 6
    · have HX := Hid.mk_ (show (List.range (i + 1)).all (pageOkB ⟨bs, cs⟩) = pageOkB ⟨bs, cs⟩ i by rw [List.range_succ, List.all_append, HT.out]; simp)
      by_cases k1 : pageOkB ⟨bs, cs⟩ i = true
      · have HK := Hid.mk_ k1
        clear k1
        go_wp2_with (go_at_call 239; refine (pageOk_impl _ ⟨⟨A1, bs.length, c1⟩, ⟨A2, cs.length, c2⟩⟩ ⟨bs, cs⟩ i hlt ⟨rd_up hr1 hb, rd_up hr2 hb⟩ HS.out).mono ?_; rw [HK.out]; rintro e w2 ⟨rfl, hb2⟩)
        go_roundw
        case rel => exact ⟨i + 1, by omega, by go_num, Hid.mk_ (by rw [HX.out, HK.out]), hb.trans (hb2.mono hb.size), cell_up hb2 hz r0, cell_up hb2 hz r1, Nat.lt_of_lt_of_le hz hb2.size⟩
        case measure => simp [intOf]; omega
      · have HK := Hid.mk_ ((Bool.not_eq_true _).mp k1)
        have HN := Hid.mk_ (show (List.range 6).all (pageOkB ⟨bs, cs⟩) = false from List.all_eq_false.2 ⟨i, List.mem_range.2 hlt, by rw [HK.out]; decide⟩)
        clear k1
        go_wp2_with (go_at_call 239; refine (pageOk_impl _ ⟨⟨A1, bs.length, c1⟩, ⟨A2, cs.length, c2⟩⟩ ⟨bs, cs⟩ i hlt ⟨rd_up hr1 hb, rd_up hr2 hb⟩ HS.out).mono ?_; rw [HK.out]; rintro e w2 ⟨rfl, hb2⟩)
        go_ret
        exact ⟨ret_bool (by rw [HE.out, HN.out]; simp), hb.trans (hb2.mono hb.size)⟩
    · obtain rfl : i = 6 := by omega
      go_wp2
      go_ret
      exact ⟨ret_bool (by rw [HE.out, HT.out, HS.out]; rfl), hb⟩

set_option maxRecDepth 100000 in
set_option maxHeartbeats 1000000 in
theorem HeapOk_spec (w : World) (H : HHeap) (x : Heap) (h : RdHeap w w.heap.size H x) :
    Calls Tryz.prog 126 #[.agg #[.slice H.Bytes.a H.Bytes.len H.Bytes.cap, .slice H.Class.a H.Class.len H.Class.cap]] w fun e w' => e = .returned (.bool (heapOkB x)) ∧ Below w.heap.size w w' := by
  obtain ⟨⟨A1, n1, c1⟩, ⟨A2, n2, c2⟩⟩ := H
  obtain ⟨bs, cs⟩ := x
  have hr1 : RdL FI w w.heap.size (.slice A1 n1 c1) bs := h.Bytes
  have hr2 : RdL FI w w.heap.size (.slice A2 n2 c2) cs := h.Class
  obtain ⟨_, _, hv, q1, q2, qx⟩ := id hr1
  simp only [Value.slice.injEq] at hv
  obtain ⟨rfl, rfl, rfl⟩ := hv
  have hlt1 : bs.length ≤ 9223372036854775807 := by unfold maxLen at q2; omega
  clear q1 q2 qx
  obtain ⟨_, _, hv, q1, q2, qx⟩ := id hr2
  simp only [Value.slice.injEq] at hv
  obtain ⟨rfl, rfl, rfl⟩ := hv
  have hlt2 : cs.length ≤ 9223372036854775807 := by unfold maxLen at q2; omega
  clear q1 q2 qx h
  have HE := Hid.mk_ (show heapOkB ⟨bs, cs⟩ = (shapeB ⟨bs, cs⟩ && (List.range 6).all (pageOkB ⟨bs, cs⟩)) from rfl)
  show Calls Tryz.prog 126 #[.agg #[.slice A1 bs.length c1, .slice A2 cs.length c2]] _ _
  by_cases hs : shapeB ⟨bs, cs⟩ = true
  case neg =>
    have HT := Hid.mk_ ((Bool.not_eq_true _).mp hs)
    clear hs
    go_enter Tryz.func126, Tryz.ntmps126
    go_wp2_with (go_at_call 211; refine (l7Shape_spec _ ⟨⟨A1, bs.length, c1⟩, ⟨A2, cs.length, c2⟩⟩ ⟨bs, cs⟩ ⟨rd_up hr1 (by repeat (first | exact Below.refl _ _ | refine Below.alloc ?_ (by simp <;> omega) _ | refine below_grow_of ?_ (by simp <;> omega) _ _ | refine Below.drew ?_ | refine below_drewN ?_ _)), rd_up hr2 (by repeat (first | exact Below.refl _ _ | refine Below.alloc ?_ (by simp <;> omega) _ | refine below_grow_of ?_ (by simp <;> omega) _ _ | refine Below.drew ?_ | refine below_drewN ?_ _))⟩).mono ?_; rw [HT.out]; rintro e w1 ⟨rfl, hb1⟩; obtain ⟨os1, d1, rfl⟩ := below_grows hb1; clear hb1)
    go_ret
    exact ⟨ret_bool (by rw [HE.out, HT.out]; rfl), by repeat (first | exact Below.refl _ _ | refine Below.alloc ?_ (by simp <;> omega) _ | refine below_grow_of ?_ (by simp <;> omega) _ _ | refine Below.drew ?_ | refine below_drewN ?_ _)⟩
  have HS := Hid.mk_ hs
  clear hs
  go_enter Tryz.func126, Tryz.ntmps126
  go_wp2_with fail
  refine (l7Shape_spec _ ⟨⟨A1, bs.length, c1⟩, ⟨A2, cs.length, c2⟩⟩ ⟨bs, cs⟩ ⟨rd_up hr1 (by repeat (first | exact Below.refl _ _ | refine Below.alloc ?_ (by simp <;> omega) _ | refine below_grow_of ?_ (by simp <;> omega) _ _ | refine Below.drew ?_ | refine below_drewN ?_ _)), rd_up hr2 (by repeat (first | exact Below.refl _ _ | refine Below.alloc ?_ (by simp <;> omega) _ | refine below_grow_of ?_ (by simp <;> omega) _ _ | refine Below.drew ?_ | refine below_drewN ?_ _))⟩).mono ?_
  rw [HS.out]
  rintro e w1 ⟨rfl, hb1⟩
  have q0 : w1.cell? ⟨w.heap.size, 0, none⟩ = some (.slice A1 bs.length c1) := cell_up hb1 (by simp <;> omega) (by simp [go_sem])
  have q1 : w1.cell? ⟨w.heap.size, 1, none⟩ = some (.slice A2 cs.length c2) := cell_up hb1 (by simp <;> omega) (by simp [go_sem])
  have hB1 : Below w.heap.size w w1 := Below.trans (by repeat (first | exact Below.refl _ _ | refine Below.alloc ?_ (by simp <;> omega) _ | refine below_grow_of ?_ (by simp <;> omega) _ _ | refine Below.drew ?_ | refine below_drewN ?_ _)) (hb1.mono (by simp))
  have z1 : w.heap.size < w1.heap.size := by have := hb1.size; simp at this; omega
  clear hb1
  go_wp2
  go_loopw [3] (fun i wr => ∃ k : Nat, k ≤ 6 ∧ i = .int .i64 k ∧ Hid ((List.range k).all (pageOkB ⟨bs, cs⟩) = true) ∧ Below w.heap.size w wr ∧ wr.cell? ⟨w.heap.size, 0, none⟩ = some (.slice A1 bs.length c1) ∧ wr.cell? ⟨w.heap.size, 1, none⟩ = some (.slice A2 cs.length c2) ∧ w.heap.size < wr.heap.size) (fun i _ => 6 - (intOf i).toNat)
  case atStart => exact ⟨0, Nat.zero_le _, rfl, rfl, hB1, q0, q1, z1⟩
  case round =>
    obtain ⟨i, hi, rfl, HT, hb, r0, r1, hz⟩ := hrel
    clear q0 q1 hB1 z1
    by_cases hlt : i < 6
    · have HX := Hid.mk_ (show (List.range (i + 1)).all (pageOkB ⟨bs, cs⟩) = pageOkB ⟨bs, cs⟩ i by rw [List.range_succ, List.all_append, HT.out]; simp)
      by_cases k1 : pageOkB ⟨bs, cs⟩ i = true
      · have HK := Hid.mk_ k1
        clear k1
        go_wp2_with (go_at_call 212; refine (l7Page_spec _ ⟨⟨A1, bs.length, c1⟩, ⟨A2, cs.length, c2⟩⟩ ⟨bs, cs⟩ i hlt ⟨rd_up hr1 hb, rd_up hr2 hb⟩ HS.out).mono ?_; rw [HK.out]; rintro e w2 ⟨rfl, hb2⟩)
        go_roundw
        case rel => exact ⟨i + 1, by omega, by go_num, Hid.mk_ (by rw [HX.out, HK.out]), hb.trans (hb2.mono hb.size), cell_up hb2 hz r0, cell_up hb2 hz r1, Nat.lt_of_lt_of_le hz hb2.size⟩
        case measure => simp [intOf]; omega
      · have HK := Hid.mk_ ((Bool.not_eq_true _).mp k1)
        have HN := Hid.mk_ (show (List.range 6).all (pageOkB ⟨bs, cs⟩) = false from List.all_eq_false.2 ⟨i, List.mem_range.2 hlt, by rw [HK.out]; decide⟩)
        clear k1
        go_wp2_with (go_at_call 212; refine (l7Page_spec _ ⟨⟨A1, bs.length, c1⟩, ⟨A2, cs.length, c2⟩⟩ ⟨bs, cs⟩ i hlt ⟨rd_up hr1 hb, rd_up hr2 hb⟩ HS.out).mono ?_; rw [HK.out]; rintro e w2 ⟨rfl, hb2⟩)
        go_ret
        exact ⟨ret_bool (by rw [HE.out, HN.out]; simp), hb.trans (hb2.mono hb.size)⟩
    · obtain rfl : i = 6 := by omega
      go_wp2
      go_ret
      exact ⟨ret_bool (by rw [HE.out, HT.out, HS.out]; rfl), hb⟩
end Go.Proofs.YtkldapdpaldbgaaGreat
