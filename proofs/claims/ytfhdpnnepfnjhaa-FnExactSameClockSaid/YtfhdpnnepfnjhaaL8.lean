/-
  FnExactSameClock, walked.
-/
import Derived.Test.YtfhdpnnepfnjhaaT
import Derived.Test.YtfhdpnnepfnjhaaL
import Derived.Deep.QuietTactic
import Derived.BigQuiet
import Derived.Deep.LoopGhost
import Derived.Deep.RegionHeld3
import Derived.Test.YtfhdpnnepfnjhaaN
import Derived.Test.YtfhdpnnepfnjhaaA
import Derived.WalkSpells
import Derived.Laws.Cover3
import Derived.Test.YtfhdpnnepfnjhaaL6
import Derived.Deep.CutRange
namespace Go.Proofs.Ytfhdpnnepfnjhaa
open Go.RowKit

theorem undrew {w w' : World} (hb : Below w.drew.heap.size w.drew w') : Below w.heap.size w w' := ⟨hb.os, hb.tape, hb.output, hb.size, hb.block⟩
theorem fcdrew {w : World} {F : List Nat} (h : ∀ g ∈ F, w.drew.heap.size ≤ g) : ∀ g ∈ F, w.heap.size ≤ g := h
theorem lt_step {w w' : World} {o : Obj} {a : Nat} (z : a < w.heap.size) (hb : Below (w.alloc o).heap.size (w.alloc o) w') : a < w'.heap.size := by
  have := hb.size
  simp at this
  omega
theorem lt_step0 {w w' : World} {a : Nat} (z : a < w.heap.size) (hb : Below w.heap.size w w') : a < w'.heap.size := Nat.lt_of_lt_of_le z hb.size
theorem new_lt {w w' : World} {o : Obj} (hb : Below (w.alloc o).heap.size (w.alloc o) w') : w.heap.size < w'.heap.size := by
  have := hb.size
  simp at this
  omega

set_option maxRecDepth 100000 in
set_option maxHeartbeats 4000000 in
theorem FnExactSameClock_law (w : World) (K0 : HClock) (x0 : Clock) (K1 : HClock) (x1 : Clock) (h0 : RdClock w w.heap.size K0 x0) (h1 : RdClock w w.heap.size K1 x1) :
    Calls Try.prog 4 #[.agg #[.int .i64 x0.Epoch, .slice K0.Pins.a K0.Pins.len K0.Pins.cap], .agg #[.int .i64 x1.Epoch, .slice K1.Pins.a K1.Pins.len K1.Pins.cap]] w fun e w' => e = .returned (.bool true) ∧ Below w.heap.size w w' := by
  by_cases hs0' : sizeClock x0 ≤ 1048576
  case neg =>
    have HL := Hid.mk_ (leftOf_neg hs0')
    go_enter Try.func4, Try.ntmps4
    go_wp2_with fail
    have hB : Below w.heap.size w ((w.alloc (.cells #[.int .i64 x0.Epoch, .slice K0.Pins.a K0.Pins.len K0.Pins.cap] 31)).alloc (.cells #[.int .i64 x1.Epoch, .slice K1.Pins.a K1.Pins.len K1.Pins.cap] 31)) := by repeat (first | exact Below.refl _ _ | refine Below.alloc ?_ (by simp <;> omega) _ | refine below_grow_of ?_ (by simp <;> omega) _ _ | refine Below.drew ?_)
    have hB0 := hB
    have b0_0 : (((w.alloc (.cells #[.int .i64 x0.Epoch, .slice K0.Pins.a K0.Pins.len K0.Pins.cap] 31)).alloc (.cells #[.int .i64 x1.Epoch, .slice K1.Pins.a K1.Pins.len K1.Pins.cap] 31))).cell? ⟨w.heap.size, 0, none⟩ = some (.int .i64 x0.Epoch) := by simp [go_sem]
    have b0_1 : (((w.alloc (.cells #[.int .i64 x0.Epoch, .slice K0.Pins.a K0.Pins.len K0.Pins.cap] 31)).alloc (.cells #[.int .i64 x1.Epoch, .slice K1.Pins.a K1.Pins.len K1.Pins.cap] 31))).cell? ⟨w.heap.size, 1, none⟩ = some (.slice K0.Pins.a K0.Pins.len K0.Pins.cap) := by simp [go_sem]
    have z0 : w.heap.size < (((w.alloc (.cells #[.int .i64 x0.Epoch, .slice K0.Pins.a K0.Pins.len K0.Pins.cap] 31)).alloc (.cells #[.int .i64 x1.Epoch, .slice K1.Pins.a K1.Pins.len K1.Pins.cap] 31))).heap.size := by simp <;> omega
    have b1_0 : (((w.alloc (.cells #[.int .i64 x0.Epoch, .slice K0.Pins.a K0.Pins.len K0.Pins.cap] 31)).alloc (.cells #[.int .i64 x1.Epoch, .slice K1.Pins.a K1.Pins.len K1.Pins.cap] 31))).cell? ⟨w.heap.size + 1, 0, none⟩ = some (.int .i64 x1.Epoch) := by simp [go_sem]
    have b1_1 : (((w.alloc (.cells #[.int .i64 x0.Epoch, .slice K0.Pins.a K0.Pins.len K0.Pins.cap] 31)).alloc (.cells #[.int .i64 x1.Epoch, .slice K1.Pins.a K1.Pins.len K1.Pins.cap] 31))).cell? ⟨w.heap.size + 1, 1, none⟩ = some (.slice K1.Pins.a K1.Pins.len K1.Pins.cap) := by simp [go_sem]
    have z1 : w.heap.size + 1 < (((w.alloc (.cells #[.int .i64 x0.Epoch, .slice K0.Pins.a K0.Pins.len K0.Pins.cap] 31)).alloc (.cells #[.int .i64 x1.Epoch, .slice K1.Pins.a K1.Pins.len K1.Pins.cap] 31))).heap.size := by simp <;> omega
    generalize hW : ((w.alloc (.cells #[.int .i64 x0.Epoch, .slice K0.Pins.a K0.Pins.len K0.Pins.cap] 31)).alloc (.cells #[.int .i64 x1.Epoch, .slice K1.Pins.a K1.Pins.len K1.Pins.cap] 31)) = w0 at hB hB0 b0_0 b0_1 z0 b1_0 b1_1 z1 ⊢
    clear hW
    refine (szClock_ct _ K0 x0 1048576 (rdClock_up h0 hB) (by omega)).mono ?_
    rw [HL.out]
    rintro e w1 ⟨rfl, hb⟩
    replace hB := below_step0 hB hb hB.size
    have sz := hb.size
    replace b0_0 := cell_up hb z0 b0_0
    replace b0_1 := cell_up hb z0 b0_1
    replace z0 := lt_step0 z0 hb
    replace b1_0 := cell_up hb z1 b1_0
    replace b1_1 := cell_up hb z1 b1_1
    replace z1 := lt_step0 z1 hb
    clear hb
    go_wp2_with fail
    go_ret
    exact ⟨rfl, hB⟩
  obtain ⟨r0, HL0, hr0⟩ : ∃ r : Nat, Hid (leftOf 1048576 (sizeClock x0) = (r : Int)) ∧ r + sizeClock x0 = 1048576 := ⟨1048576 - sizeClock x0, Hid.mk_ (by rw [leftOf_pos hs0']; omega), by omega⟩
  by_cases hs1' : sizeClock x1 ≤ r0
  case neg =>
    have HL := Hid.mk_ (leftOf_neg hs1')
    go_enter Try.func4, Try.ntmps4
    go_wp2_with fail
    have hB : Below w.heap.size w ((w.alloc (.cells #[.int .i64 x0.Epoch, .slice K0.Pins.a K0.Pins.len K0.Pins.cap] 31)).alloc (.cells #[.int .i64 x1.Epoch, .slice K1.Pins.a K1.Pins.len K1.Pins.cap] 31)) := by repeat (first | exact Below.refl _ _ | refine Below.alloc ?_ (by simp <;> omega) _ | refine below_grow_of ?_ (by simp <;> omega) _ _ | refine Below.drew ?_)
    have hB0 := hB
    have b0_0 : (((w.alloc (.cells #[.int .i64 x0.Epoch, .slice K0.Pins.a K0.Pins.len K0.Pins.cap] 31)).alloc (.cells #[.int .i64 x1.Epoch, .slice K1.Pins.a K1.Pins.len K1.Pins.cap] 31))).cell? ⟨w.heap.size, 0, none⟩ = some (.int .i64 x0.Epoch) := by simp [go_sem]
    have b0_1 : (((w.alloc (.cells #[.int .i64 x0.Epoch, .slice K0.Pins.a K0.Pins.len K0.Pins.cap] 31)).alloc (.cells #[.int .i64 x1.Epoch, .slice K1.Pins.a K1.Pins.len K1.Pins.cap] 31))).cell? ⟨w.heap.size, 1, none⟩ = some (.slice K0.Pins.a K0.Pins.len K0.Pins.cap) := by simp [go_sem]
    have z0 : w.heap.size < (((w.alloc (.cells #[.int .i64 x0.Epoch, .slice K0.Pins.a K0.Pins.len K0.Pins.cap] 31)).alloc (.cells #[.int .i64 x1.Epoch, .slice K1.Pins.a K1.Pins.len K1.Pins.cap] 31))).heap.size := by simp <;> omega
    have b1_0 : (((w.alloc (.cells #[.int .i64 x0.Epoch, .slice K0.Pins.a K0.Pins.len K0.Pins.cap] 31)).alloc (.cells #[.int .i64 x1.Epoch, .slice K1.Pins.a K1.Pins.len K1.Pins.cap] 31))).cell? ⟨w.heap.size + 1, 0, none⟩ = some (.int .i64 x1.Epoch) := by simp [go_sem]
    have b1_1 : (((w.alloc (.cells #[.int .i64 x0.Epoch, .slice K0.Pins.a K0.Pins.len K0.Pins.cap] 31)).alloc (.cells #[.int .i64 x1.Epoch, .slice K1.Pins.a K1.Pins.len K1.Pins.cap] 31))).cell? ⟨w.heap.size + 1, 1, none⟩ = some (.slice K1.Pins.a K1.Pins.len K1.Pins.cap) := by simp [go_sem]
    have z1 : w.heap.size + 1 < (((w.alloc (.cells #[.int .i64 x0.Epoch, .slice K0.Pins.a K0.Pins.len K0.Pins.cap] 31)).alloc (.cells #[.int .i64 x1.Epoch, .slice K1.Pins.a K1.Pins.len K1.Pins.cap] 31))).heap.size := by simp <;> omega
    generalize hW : ((w.alloc (.cells #[.int .i64 x0.Epoch, .slice K0.Pins.a K0.Pins.len K0.Pins.cap] 31)).alloc (.cells #[.int .i64 x1.Epoch, .slice K1.Pins.a K1.Pins.len K1.Pins.cap] 31)) = w0 at hB hB0 b0_0 b0_1 z0 b1_0 b1_1 z1 ⊢
    clear hW
    refine (szClock_ct _ K0 x0 1048576 (rdClock_up h0 hB) (by omega)).mono ?_
    rw [HL0.out]
    rintro e w1 ⟨rfl, hb⟩
    replace hB := below_step0 hB hb hB.size
    have sz := hb.size
    replace b0_0 := cell_up hb z0 b0_0
    replace b0_1 := cell_up hb z0 b0_1
    replace z0 := lt_step0 z0 hb
    replace b1_0 := cell_up hb z1 b1_0
    replace b1_1 := cell_up hb z1 b1_1
    replace z1 := lt_step0 z1 hb
    clear hb
    go_wp2_with fail
    refine (szClock_ct _ K1 x1 r0 (rdClock_up h1 hB) (by omega)).mono ?_
    rw [HL.out]
    rintro e w2 ⟨rfl, hb⟩
    replace hB := below_step0 hB hb hB.size
    have sz := hb.size
    replace b0_0 := cell_up hb z0 b0_0
    replace b0_1 := cell_up hb z0 b0_1
    replace z0 := lt_step0 z0 hb
    replace b1_0 := cell_up hb z1 b1_0
    replace b1_1 := cell_up hb z1 b1_1
    replace z1 := lt_step0 z1 hb
    clear hb
    go_wp2_with fail
    go_ret
    exact ⟨rfl, hB⟩
  obtain ⟨r1, HL1, hr1⟩ : ∃ r : Nat, Hid (leftOf r0 (sizeClock x1) = (r : Int)) ∧ r + sizeClock x1 = r0 := ⟨r0 - sizeClock x1, Hid.mk_ (by rw [leftOf_pos hs1']; omega), by omega⟩
  have hs0 : x0.Pins.length ≤ 1048576 := by have : sizeClock x0 = x0.Pins.length := rfl; omega
  have hn0 : nMarkClock x0 = x0.Pins.length * 4 := rfl
  have hs1 : x1.Pins.length ≤ 1048576 := by have : sizeClock x1 = x1.Pins.length := rfl; omega
  have hn1 : nMarkClock x1 = x1.Pins.length * 4 := rfl
  clear hs0'
  clear hs1'
  go_enter Try.func4, Try.ntmps4
  go_wp2_with fail
  have hB : Below w.heap.size w ((w.alloc (.cells #[.int .i64 x0.Epoch, .slice K0.Pins.a K0.Pins.len K0.Pins.cap] 31)).alloc (.cells #[.int .i64 x1.Epoch, .slice K1.Pins.a K1.Pins.len K1.Pins.cap] 31)) := by repeat (first | exact Below.refl _ _ | refine Below.alloc ?_ (by simp <;> omega) _ | refine below_grow_of ?_ (by simp <;> omega) _ _ | refine Below.drew ?_)
  have hB0 := hB
  have b0_0 : (((w.alloc (.cells #[.int .i64 x0.Epoch, .slice K0.Pins.a K0.Pins.len K0.Pins.cap] 31)).alloc (.cells #[.int .i64 x1.Epoch, .slice K1.Pins.a K1.Pins.len K1.Pins.cap] 31))).cell? ⟨w.heap.size, 0, none⟩ = some (.int .i64 x0.Epoch) := by simp [go_sem]
  have b0_1 : (((w.alloc (.cells #[.int .i64 x0.Epoch, .slice K0.Pins.a K0.Pins.len K0.Pins.cap] 31)).alloc (.cells #[.int .i64 x1.Epoch, .slice K1.Pins.a K1.Pins.len K1.Pins.cap] 31))).cell? ⟨w.heap.size, 1, none⟩ = some (.slice K0.Pins.a K0.Pins.len K0.Pins.cap) := by simp [go_sem]
  have z0 : w.heap.size < (((w.alloc (.cells #[.int .i64 x0.Epoch, .slice K0.Pins.a K0.Pins.len K0.Pins.cap] 31)).alloc (.cells #[.int .i64 x1.Epoch, .slice K1.Pins.a K1.Pins.len K1.Pins.cap] 31))).heap.size := by simp <;> omega
  have b1_0 : (((w.alloc (.cells #[.int .i64 x0.Epoch, .slice K0.Pins.a K0.Pins.len K0.Pins.cap] 31)).alloc (.cells #[.int .i64 x1.Epoch, .slice K1.Pins.a K1.Pins.len K1.Pins.cap] 31))).cell? ⟨w.heap.size + 1, 0, none⟩ = some (.int .i64 x1.Epoch) := by simp [go_sem]
  have b1_1 : (((w.alloc (.cells #[.int .i64 x0.Epoch, .slice K0.Pins.a K0.Pins.len K0.Pins.cap] 31)).alloc (.cells #[.int .i64 x1.Epoch, .slice K1.Pins.a K1.Pins.len K1.Pins.cap] 31))).cell? ⟨w.heap.size + 1, 1, none⟩ = some (.slice K1.Pins.a K1.Pins.len K1.Pins.cap) := by simp [go_sem]
  have z1 : w.heap.size + 1 < (((w.alloc (.cells #[.int .i64 x0.Epoch, .slice K0.Pins.a K0.Pins.len K0.Pins.cap] 31)).alloc (.cells #[.int .i64 x1.Epoch, .slice K1.Pins.a K1.Pins.len K1.Pins.cap] 31))).heap.size := by simp <;> omega
  generalize hW : ((w.alloc (.cells #[.int .i64 x0.Epoch, .slice K0.Pins.a K0.Pins.len K0.Pins.cap] 31)).alloc (.cells #[.int .i64 x1.Epoch, .slice K1.Pins.a K1.Pins.len K1.Pins.cap] 31)) = w0 at hB hB0 b0_0 b0_1 z0 b1_0 b1_1 z1 ⊢
  clear hW
  refine (szClock_ct _ K0 x0 1048576 (rdClock_up h0 hB) (by omega)).mono ?_
  rw [HL0.out]
  rintro e w1 ⟨rfl, hb⟩
  replace hB := below_step0 hB hb hB.size
  have sz := hb.size
  replace b0_0 := cell_up hb z0 b0_0
  replace b0_1 := cell_up hb z0 b0_1
  replace z0 := lt_step0 z0 hb
  replace b1_0 := cell_up hb z1 b1_0
  replace b1_1 := cell_up hb z1 b1_1
  replace z1 := lt_step0 z1 hb
  clear hb
  go_wp2_with fail
  refine (szClock_ct _ K1 x1 r0 (rdClock_up h1 hB) (by omega)).mono ?_
  rw [HL1.out]
  rintro e w2 ⟨rfl, hb⟩
  replace hB := below_step0 hB hb hB.size
  have sz := hb.size
  replace b0_0 := cell_up hb z0 b0_0
  replace b0_1 := cell_up hb z0 b0_1
  replace z0 := lt_step0 z0 hb
  replace b1_0 := cell_up hb z1 b1_0
  replace b1_1 := cell_up hb z1 b1_1
  replace z1 := lt_step0 z1 hb
  clear hb
  go_upto_region 8 with (fail)
  go_cut [6] from 20 to 24 (fun r wx => r = .bool (sameClockB x0 x1) ∧ Below w.heap.size w wx ∧ wx.cell? ⟨w.heap.size, 0, none⟩ = some (.int .i64 x0.Epoch) ∧ wx.cell? ⟨w.heap.size, 1, none⟩ = some (.slice K0.Pins.a K0.Pins.len K0.Pins.cap) ∧ w.heap.size < wx.heap.size ∧ wx.cell? ⟨w.heap.size + 1, 0, none⟩ = some (.int .i64 x1.Epoch) ∧ wx.cell? ⟨w.heap.size + 1, 1, none⟩ = some (.slice K1.Pins.a K1.Pins.len K1.Pins.cap) ∧ w.heap.size + 1 < wx.heap.size)
  case first =>
    go_region_with (first | (go_at_call 22; (first | ((with_reducible refine (toClock_ct _ K0 x0 (rdClock_up h0 hB) (by omega)).mono ?_); rintro e wq ⟨K_a0, rfl, o_a0, lb_a0, hb⟩) | ((with_reducible refine (toClock_ct _ K0 x0 (rdClock_up h0 hB.drew) (by omega)).mono ?_); rintro e wq ⟨K_a0, rfl, o_a0, lb_a0, hb⟩; replace hb := undrew hb; replace lb_a0 := fcdrew lb_a0)); replace hB := below_step0 hB hb hB.size; have sz := hb.size; replace b0_0 := cell_up hb z0 b0_0; replace b0_1 := cell_up hb z0 b0_1; replace z0 := lt_step0 z0 hb; replace b1_0 := cell_up hb z1 b1_0; replace b1_1 := cell_up hb z1 b1_1; replace z1 := lt_step0 z1 hb; clear hb; have ub_a0 := o_a0.lt) | (go_at_call 22; (first | ((with_reducible refine (toClock_ct _ K1 x1 (rdClock_up h1 hB) (by omega)).mono ?_); rintro e wq ⟨K_a1, rfl, o_a1, lb_a1, hb⟩) | ((with_reducible refine (toClock_ct _ K1 x1 (rdClock_up h1 hB.drew) (by omega)).mono ?_); rintro e wq ⟨K_a1, rfl, o_a1, lb_a1, hb⟩; replace hb := undrew hb; replace lb_a1 := fcdrew lb_a1)); replace hB := below_step0 hB hb hB.size; have sz := hb.size; replace b0_0 := cell_up hb z0 b0_0; replace b0_1 := cell_up hb z0 b0_1; replace z0 := lt_step0 z0 hb; replace b1_0 := cell_up hb z1 b1_0; replace b1_1 := cell_up hb z1 b1_1; replace z1 := lt_step0 z1 hb; replace o_a0 := o_a0.step0 hb; clear hb; have ub_a1 := o_a1.lt) | (go_at_call 21; (with_reducible refine (SameClock_spec _ _ _ x0 x1   o_a0.rd' o_a1.rd'  ).mono ?_); rintro e wq ⟨rfl, hb⟩; replace hB := below_step0 hB hb hB.size; have sz := hb.size; replace b0_0 := cell_up hb z0 b0_0; replace b0_1 := cell_up hb z0 b0_1; replace z0 := lt_step0 z0 hb; replace b1_0 := cell_up hb z1 b1_0; replace b1_1 := cell_up hb z1 b1_1; replace z1 := lt_step0 z1 hb; replace o_a0 := o_a0.step0 hb; replace o_a1 := o_a1.step0 hb; clear hb))
    all_goals
      go_wp2_with fail
      go_meet
      exact ⟨rfl, hB, b0_0, b0_1, z0, b1_0, b1_1, z1⟩
  case rest =>
    clear hB
    clear b0_0
    clear b0_1
    clear z0
    clear b1_0
    clear b1_1
    clear z1
    obtain ⟨rfl, hB, b0_0, b0_1, z0, b1_0, b1_1, z1⟩ := hcut
    go_wp2_with fail
    refine (toClock_ct _ K0 x0 (rdClock_up h0 hB) (by omega)).mono ?_
    rintro e w7 ⟨K_x0, rfl, o_x0, lb_x0, hb⟩
    replace hB := below_step0 hB hb hB.size
    have sz := hb.size
    replace b0_0 := cell_up hb z0 b0_0
    replace b0_1 := cell_up hb z0 b0_1
    replace z0 := lt_step0 z0 hb
    replace b1_0 := cell_up hb z1 b1_0
    replace b1_1 := cell_up hb z1 b1_1
    replace z1 := lt_step0 z1 hb
    clear hb
    have ub_x0 := o_x0.lt
    go_wp2_with fail
    refine (toClock_ct _ K1 x1 (rdClock_up h1 (hB.alloc hB.size _)) (by omega)).mono ?_
    rintro e w8 ⟨K_x1, rfl, o_x1, lb_x1, hb⟩
    simp only [World.size_alloc] at lb_x1
    replace hB := below_step hB hb hB.size
    have sz := hb.size
    simp only [World.size_alloc] at sz
    replace b0_0 := up2 hb z0 b0_0
    replace b0_1 := up2 hb z0 b0_1
    replace z0 := lt_step z0 hb
    replace b1_0 := up2 hb z1 b1_0
    replace b1_1 := up2 hb z1 b1_1
    replace z1 := lt_step z1 hb
    have b2_0 := new_cell hb (j := 0) rfl
    have b2_1 := new_cell hb (j := 1) rfl
    have z2 := new_lt hb
    replace o_x0 := o_x0.step hb
    clear hb
    have ub_x1 := o_x1.lt
    go_wp2_with fail
    refine (SameClock_impl _ _ _ x0 x1   (o_x0.alloc_ _).rd' (o_x1.alloc_ _).rd'  ).mono ?_
    rintro e w9 ⟨rfl, hb⟩
    replace hB := below_step hB hb hB.size
    have sz := hb.size
    simp only [World.size_alloc] at sz
    replace b0_0 := up2 hb z0 b0_0
    replace b0_1 := up2 hb z0 b0_1
    replace z0 := lt_step z0 hb
    replace b1_0 := up2 hb z1 b1_0
    replace b1_1 := up2 hb z1 b1_1
    replace z1 := lt_step z1 hb
    replace b2_0 := up2 hb z2 b2_0
    replace b2_1 := up2 hb z2 b2_1
    replace z2 := lt_step z2 hb
    have b3_0 := new_cell hb (j := 0) rfl
    have b3_1 := new_cell hb (j := 1) rfl
    have z3 := new_lt hb
    replace o_x0 := o_x0.step hb
    replace o_x1 := o_x1.step hb
    clear hb
    go_upto_region 14 with (fail)
    go_cut [39] from 35 to 39 (fun r wx => r = .bool false ∧ Below w.heap.size w wx ∧ wx.cell? ⟨w.heap.size, 0, none⟩ = some (.int .i64 x0.Epoch) ∧ wx.cell? ⟨w.heap.size, 1, none⟩ = some (.slice K0.Pins.a K0.Pins.len K0.Pins.cap) ∧ w.heap.size < wx.heap.size ∧ wx.cell? ⟨w.heap.size + 1, 0, none⟩ = some (.int .i64 x1.Epoch) ∧ wx.cell? ⟨w.heap.size + 1, 1, none⟩ = some (.slice K1.Pins.a K1.Pins.len K1.Pins.cap) ∧ w.heap.size + 1 < wx.heap.size ∧ wx.cell? ⟨w7.heap.size, 0, none⟩ = some (.int .i64 x0.Epoch) ∧ wx.cell? ⟨w7.heap.size, 1, none⟩ = some (.slice K_x0.Pins.a K_x0.Pins.len K_x0.Pins.cap) ∧ w7.heap.size < wx.heap.size ∧ wx.cell? ⟨w8.heap.size, 0, none⟩ = some (.int .i64 x1.Epoch) ∧ wx.cell? ⟨w8.heap.size, 1, none⟩ = some (.slice K_x1.Pins.a K_x1.Pins.len K_x1.Pins.cap) ∧ w8.heap.size < wx.heap.size ∧ OwClock wx K_x0 x0 ∧ OwClock wx K_x1 x1)
    case first =>
      go_region_with (first | (go_at_call 22; (first | ((with_reducible refine (toClock_ct _ K0 x0 (rdClock_up h0 hB) (by omega)).mono ?_); rintro e wq ⟨K_c0, rfl, o_c0, lb_c0, hb⟩) | ((with_reducible refine (toClock_ct _ K0 x0 (rdClock_up h0 hB.drew) (by omega)).mono ?_); rintro e wq ⟨K_c0, rfl, o_c0, lb_c0, hb⟩; replace hb := undrew hb; replace lb_c0 := fcdrew lb_c0)); replace hB := below_step0 hB hb hB.size; have sz := hb.size; replace b0_0 := cell_up hb z0 b0_0; replace b0_1 := cell_up hb z0 b0_1; replace z0 := lt_step0 z0 hb; replace b1_0 := cell_up hb z1 b1_0; replace b1_1 := cell_up hb z1 b1_1; replace z1 := lt_step0 z1 hb; replace b2_0 := cell_up hb z2 b2_0; replace b2_1 := cell_up hb z2 b2_1; replace z2 := lt_step0 z2 hb; replace b3_0 := cell_up hb z3 b3_0; replace b3_1 := cell_up hb z3 b3_1; replace z3 := lt_step0 z3 hb; replace o_x0 := o_x0.step0 hb; replace o_x1 := o_x1.step0 hb; clear hb; have ub_c0 := o_c0.lt) | (go_at_call 17; (with_reducible refine (eqClock_ct _ _ _ _ o_x0.rd' o_c0.rd' (by omega)).mono ?_); rintro e wq ⟨rfl, hb⟩; replace hB := below_step0 hB hb hB.size; have sz := hb.size; replace b0_0 := cell_up hb z0 b0_0; replace b0_1 := cell_up hb z0 b0_1; replace z0 := lt_step0 z0 hb; replace b1_0 := cell_up hb z1 b1_0; replace b1_1 := cell_up hb z1 b1_1; replace z1 := lt_step0 z1 hb; replace b2_0 := cell_up hb z2 b2_0; replace b2_1 := cell_up hb z2 b2_1; replace z2 := lt_step0 z2 hb; replace b3_0 := cell_up hb z3 b3_0; replace b3_1 := cell_up hb z3 b3_1; replace z3 := lt_step0 z3 hb; replace o_x0 := o_x0.step0 hb; replace o_x1 := o_x1.step0 hb; replace o_c0 := o_c0.step0 hb; clear hb))
      all_goals
        go_wp2_with fail
        go_meet
        exact ⟨rfl, hB, b0_0, b0_1, z0, b1_0, b1_1, z1, b2_0, b2_1, z2, b3_0, b3_1, z3, o_x0, o_x1⟩
    case rest =>
      clear hB
      clear b0_0
      clear b0_1
      clear z0
      clear b1_0
      clear b1_1
      clear z1
      clear b2_0
      clear b2_1
      clear z2
      clear b3_0
      clear b3_1
      clear z3
      clear o_x0
      clear o_x1
      obtain ⟨rfl, hB, b0_0, b0_1, z0, b1_0, b1_1, z1, b2_0, b2_1, z2, b3_0, b3_1, z3, o_x0, o_x1⟩ := hcut
      go_upto_region 16 with (fail)
      go_cut [44] from 40 to 44 (fun r wx => r = .bool false ∧ Below w.heap.size w wx ∧ wx.cell? ⟨w.heap.size, 0, none⟩ = some (.int .i64 x0.Epoch) ∧ wx.cell? ⟨w.heap.size, 1, none⟩ = some (.slice K0.Pins.a K0.Pins.len K0.Pins.cap) ∧ w.heap.size < wx.heap.size ∧ wx.cell? ⟨w.heap.size + 1, 0, none⟩ = some (.int .i64 x1.Epoch) ∧ wx.cell? ⟨w.heap.size + 1, 1, none⟩ = some (.slice K1.Pins.a K1.Pins.len K1.Pins.cap) ∧ w.heap.size + 1 < wx.heap.size ∧ wx.cell? ⟨w7.heap.size, 0, none⟩ = some (.int .i64 x0.Epoch) ∧ wx.cell? ⟨w7.heap.size, 1, none⟩ = some (.slice K_x0.Pins.a K_x0.Pins.len K_x0.Pins.cap) ∧ w7.heap.size < wx.heap.size ∧ wx.cell? ⟨w8.heap.size, 0, none⟩ = some (.int .i64 x1.Epoch) ∧ wx.cell? ⟨w8.heap.size, 1, none⟩ = some (.slice K_x1.Pins.a K_x1.Pins.len K_x1.Pins.cap) ∧ w8.heap.size < wx.heap.size ∧ OwClock wx K_x0 x0 ∧ OwClock wx K_x1 x1)
      case first =>
        go_region_with (first | (go_at_call 22; (first | ((with_reducible refine (toClock_ct _ K1 x1 (rdClock_up h1 hB) (by omega)).mono ?_); rintro e wq ⟨K_c1, rfl, o_c1, lb_c1, hb⟩) | ((with_reducible refine (toClock_ct _ K1 x1 (rdClock_up h1 hB.drew) (by omega)).mono ?_); rintro e wq ⟨K_c1, rfl, o_c1, lb_c1, hb⟩; replace hb := undrew hb; replace lb_c1 := fcdrew lb_c1)); replace hB := below_step0 hB hb hB.size; have sz := hb.size; replace b0_0 := cell_up hb z0 b0_0; replace b0_1 := cell_up hb z0 b0_1; replace z0 := lt_step0 z0 hb; replace b1_0 := cell_up hb z1 b1_0; replace b1_1 := cell_up hb z1 b1_1; replace z1 := lt_step0 z1 hb; replace b2_0 := cell_up hb z2 b2_0; replace b2_1 := cell_up hb z2 b2_1; replace z2 := lt_step0 z2 hb; replace b3_0 := cell_up hb z3 b3_0; replace b3_1 := cell_up hb z3 b3_1; replace z3 := lt_step0 z3 hb; replace o_x0 := o_x0.step0 hb; replace o_x1 := o_x1.step0 hb; clear hb; have ub_c1 := o_c1.lt) | (go_at_call 17; (with_reducible refine (eqClock_ct _ _ _ _ o_x1.rd' o_c1.rd' (by omega)).mono ?_); rintro e wq ⟨rfl, hb⟩; replace hB := below_step0 hB hb hB.size; have sz := hb.size; replace b0_0 := cell_up hb z0 b0_0; replace b0_1 := cell_up hb z0 b0_1; replace z0 := lt_step0 z0 hb; replace b1_0 := cell_up hb z1 b1_0; replace b1_1 := cell_up hb z1 b1_1; replace z1 := lt_step0 z1 hb; replace b2_0 := cell_up hb z2 b2_0; replace b2_1 := cell_up hb z2 b2_1; replace z2 := lt_step0 z2 hb; replace b3_0 := cell_up hb z3 b3_0; replace b3_1 := cell_up hb z3 b3_1; replace z3 := lt_step0 z3 hb; replace o_x0 := o_x0.step0 hb; replace o_x1 := o_x1.step0 hb; replace o_c1 := o_c1.step0 hb; clear hb))
        all_goals
          go_wp2_with fail
          go_meet
          exact ⟨rfl, hB, b0_0, b0_1, z0, b1_0, b1_1, z1, b2_0, b2_1, z2, b3_0, b3_1, z3, o_x0, o_x1⟩
      case rest =>
        clear hB
        clear b0_0
        clear b0_1
        clear z0
        clear b1_0
        clear b1_1
        clear z1
        clear b2_0
        clear b2_1
        clear z2
        clear b3_0
        clear b3_1
        clear z3
        clear o_x0
        clear o_x1
        obtain ⟨rfl, hB, b0_0, b0_1, z0, b1_0, b1_1, z1, b2_0, b2_1, z2, b3_0, b3_1, z3, o_x0, o_x1⟩ := hcut
        go_wp2_with fail
        go_ret
        exact ⟨rfl, hB⟩
end Go.Proofs.Ytfhdpnnepfnjhaa
