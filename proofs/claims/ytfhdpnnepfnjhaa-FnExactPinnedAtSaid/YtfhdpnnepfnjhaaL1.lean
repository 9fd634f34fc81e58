/-
  The laws on clocks, walked.
-/
import Derived.Test.YtfhdpnnepfnjhaaT
import Derived.Test.YtfhdpnnepfnjhaaL
import Derived.Deep.QuietTactic
import Derived.BigQuiet
import Derived.Deep.LoopGhost
import Derived.Deep.RegionHeld3
import Derived.Test.YtfhdpnnepfnjhaaN
import Derived.Test.YtfhdpnnepfnjhaaA
import Derived.WalkSpells
import Derived.Laws.Cover3
import Derived.Test.YtfhdpnnepfnjhaaL0
namespace Go.Proofs.Ytfhdpnnepfnjhaa
open Go.RowKit

set_option maxRecDepth 100000 in
set_option maxHeartbeats 4000000 in
theorem FnExactClockOk_law (w : World) (H0 : HClock) (x0 : Clock) (h0 : RdClock w w.heap.size H0 x0) :
    Calls Try.prog 5 #[.agg #[.int .i64 x0.Epoch, .slice H0.Pins.a H0.Pins.len H0.Pins.cap]] w fun e w' => e = .returned (.bool true) ∧ Below w.heap.size w w' := by
  by_cases hs : sizeClock x0 ≤ 1048576
  case neg =>
    have HL := Hid.mk_ (leftOf_neg hs)
    go_enter Try.func5, Try.ntmps5
    have hB0 : Below w.heap.size w w := Below.refl _ _
    go_wp2_with fail
    refine (szClock_ct _ H0 x0 1048576 (rdClock_up h0 (hB0.alloc hB0.size _)) (by omega)).mono ?_
    rw [HL.out]
    rintro e w1 ⟨rfl, hb1⟩
    go_wp2_with fail
    go_ret
    exact ⟨rfl, below_step hB0 hb1 (Nat.le_refl _)⟩
  have HL0 := Hid.mk_ (leftOf_pos hs)
  have hs0 : x0.Pins.length ≤ 1048576 := hs
  have hn0 : nMarkClock x0 = x0.Pins.length * 4 := rfl
  go_enter Try.func5, Try.ntmps5
  have hB0 : Below w.heap.size w w := Below.refl _ _
  go_wp2_with fail
  refine (szClock_ct _ H0 x0 1048576 (rdClock_up h0 (hB0.alloc hB0.size _)) (by omega)).mono ?_
  rw [HL0.out]
  rintro e w1 ⟨rfl, hb1⟩
  have hB1 := below_step hB0 hb1 hB0.size
  have sz1 := hb1.size
  simp only [World.size_alloc] at sz1
  have b0_0_1 := new_cell hb1 (j := 0) rfl
  have b0_1_1 := new_cell hb1 (j := 1) rfl
  have z0_1 : w.heap.size < w1.heap.size := (by omega)
  go_wp2_with fail
  refine (toClock_ct _ H0 x0 (rdClock_up h0 hB1) (by omega)).mono ?_
  rintro e w2 ⟨H2x, rfl, oc2, fc2, hb2⟩
  have hB2 := below_step0 hB1 hb2 hB1.size
  have sz2 := hb2.size
  have b0_0_2 := cell_up hb2 (by omega) b0_0_1
  clear b0_0_1
  have b0_1_2 := cell_up hb2 (by omega) b0_1_1
  clear b0_1_1
  have z0_2 : w.heap.size < w2.heap.size := (by omega)
  clear z0_1
  go_wp2_with fail
  refine (ClockOk_spec _ _ x0   oc2.rd' ).mono ?_
  rintro e w3 ⟨rfl, hb3⟩
  have hB3 := below_step0 hB2 hb3 hB2.size
  have sz3 := hb3.size
  have b0_0_3 := cell_up hb3 (by omega) b0_0_2
  clear b0_0_2
  have b0_1_3 := cell_up hb3 (by omega) b0_1_2
  clear b0_1_2
  have z0_3 : w.heap.size < w3.heap.size := (by omega)
  clear z0_2
  have o_a0_3 := oc2.step0 hb3
  go_wp2_with fail
  refine (toClock_ct _ H0 x0 (rdClock_up h0 hB3) (by omega)).mono ?_
  rintro e w4 ⟨H4x, rfl, oc4, fc4, hb4⟩
  have hB4 := below_step0 hB3 hb4 hB3.size
  have sz4 := hb4.size
  have b0_0_4 := cell_up hb4 (by omega) b0_0_3
  clear b0_0_3
  have b0_1_4 := cell_up hb4 (by omega) b0_1_3
  clear b0_1_3
  have z0_4 : w.heap.size < w4.heap.size := (by omega)
  clear z0_3
  have o_a0_4 := o_a0_3.step0 hb4
  clear o_a0_3
  go_wp2_with fail
  refine (ClockOk_impl _ _ x0   (oc4.alloc_ _).rd' ).mono ?_
  rintro e w5 ⟨rfl, hb5⟩
  have hB5 := below_step hB4 hb5 hB4.size
  have sz5 := hb5.size
  simp only [World.size_alloc] at sz5
  have b0_0_5 := up2 hb5 (by omega) b0_0_4
  clear b0_0_4
  have b0_1_5 := up2 hb5 (by omega) b0_1_4
  clear b0_1_4
  have z0_5 : w.heap.size < w5.heap.size := (by omega)
  clear z0_4
  have b1_0_5 := new_cell hb5 (j := 0) rfl
  have b1_1_5 := new_cell hb5 (j := 1) rfl
  have z1_5 : w4.heap.size < w5.heap.size := (by omega)
  have o_a0_5 := o_a0_4.step hb5
  clear o_a0_4
  have o_x0_5 := oc4.step hb5
  go_wp2_with fail
  go_region_with (first | (go_at_call 22; refine (toClock_ct _ H0 x0 (rdClock_up h0 hB5.drew) (by omega)).mono ?_; rintro e w6 ⟨H6x, rfl, oc6, fc6, hb6⟩; replace hb6 : Below w5.heap.size w5 w6 := ⟨hb6.os, hb6.tape, hb6.output, hb6.size, hb6.block⟩; have hB6 := below_step0 hB5 hb6 hB5.size; have sz6 := hb6.size; have b0_0_6 := cell_up hb6 (by omega) b0_0_5; clear b0_0_5; have b0_1_6 := cell_up hb6 (by omega) b0_1_5; clear b0_1_5; have z0_6 : w.heap.size < w6.heap.size := (by omega); clear z0_5; have b1_0_6 := cell_up hb6 (by omega) b1_0_5; clear b1_0_5; have b1_1_6 := cell_up hb6 (by omega) b1_1_5; clear b1_1_5; have z1_6 : w4.heap.size < w6.heap.size := (by omega); clear z1_5; have o_a0_6 := o_a0_5.step0 hb6; clear o_a0_5; have o_x0_6 := o_x0_5.step0 hb6; clear o_x0_5; replace fc6 : ∀ g ∈ _, w5.heap.size ≤ g := fc6) | (go_at_call 17; refine (eqClock_ct _ _ _ _ o_x0_6.rd' oc6.rd' (by omega)).mono ?_; rintro e w7 ⟨rfl, hb7⟩; have hB7 := below_step0 hB6 hb7 hB6.size; have sz7 := hb7.size; have b0_0_7 := cell_up hb7 (by omega) b0_0_6; clear b0_0_6; have b0_1_7 := cell_up hb7 (by omega) b0_1_6; clear b0_1_6; have z0_7 : w.heap.size < w7.heap.size := (by omega); clear z0_6; have b1_0_7 := cell_up hb7 (by omega) b1_0_6; clear b1_0_6; have b1_1_7 := cell_up hb7 (by omega) b1_1_6; clear b1_1_6; have z1_7 : w4.heap.size < w7.heap.size := (by omega); clear z1_6; have o_a0_7 := o_a0_6.step0 hb7; clear o_a0_6; have o_x0_7 := o_x0_6.step0 hb7; clear o_x0_6; have o_b0_7 := oc6.step0 hb7))
  all_goals
    go_wp2_with fail
    go_ret
    exact ⟨rfl, hB7⟩

set_option maxRecDepth 100000 in
set_option maxHeartbeats 4000000 in
theorem FnExactPinnedAt_law (w : World) (H0 : HClock) (x0 : Clock) (wk : Int) (h0 : RdClock w w.heap.size H0 x0) :
    Calls Try.prog 6 #[.agg #[.int .i64 x0.Epoch, .slice H0.Pins.a H0.Pins.len H0.Pins.cap], .int .i64 wk] w fun e w' => e = .returned (.bool true) ∧ Below w.heap.size w w' := by
  by_cases hs : sizeClock x0 ≤ 1048576
  case neg =>
    have HL := Hid.mk_ (leftOf_neg hs)
    go_enter Try.func6, Try.ntmps6
    have hB0 : Below w.heap.size w w := Below.refl _ _
    go_wp2_with fail
    refine (szClock_ct _ H0 x0 1048576 (rdClock_up h0 (hB0.alloc hB0.size _)) (by omega)).mono ?_
    rw [HL.out]
    rintro e w1 ⟨rfl, hb1⟩
    go_wp2_with fail
    go_ret
    exact ⟨rfl, below_step hB0 hb1 (Nat.le_refl _)⟩
  have HL0 := Hid.mk_ (leftOf_pos hs)
  have hs0 : x0.Pins.length ≤ 1048576 := hs
  have hn0 : nMarkClock x0 = x0.Pins.length * 4 := rfl
  go_enter Try.func6, Try.ntmps6
  have hB0 : Below w.heap.size w w := Below.refl _ _
  go_wp2_with fail
  refine (szClock_ct _ H0 x0 1048576 (rdClock_up h0 (hB0.alloc hB0.size _)) (by omega)).mono ?_
  rw [HL0.out]
  rintro e w1 ⟨rfl, hb1⟩
  have hB1 := below_step hB0 hb1 hB0.size
  have sz1 := hb1.size
  simp only [World.size_alloc] at sz1
  have b0_0_1 := new_cell hb1 (j := 0) rfl
  have b0_1_1 := new_cell hb1 (j := 1) rfl
  have z0_1 : w.heap.size < w1.heap.size := (by omega)
  go_wp2_with fail
  refine (toClock_ct _ H0 x0 (rdClock_up h0 hB1) (by omega)).mono ?_
  rintro e w2 ⟨H2x, rfl, oc2, fc2, hb2⟩
  have hB2 := below_step0 hB1 hb2 hB1.size
  have sz2 := hb2.size
  have b0_0_2 := cell_up hb2 (by omega) b0_0_1
  clear b0_0_1
  have b0_1_2 := cell_up hb2 (by omega) b0_1_1
  clear b0_1_1
  have z0_2 : w.heap.size < w2.heap.size := (by omega)
  clear z0_1
  go_wp2_with fail
  refine (PinnedAt_spec _ _ x0 wk  oc2.rd' ).mono ?_
  rintro e w3 ⟨rfl, hb3⟩
  have hB3 := below_step0 hB2 hb3 hB2.size
  have sz3 := hb3.size
  have b0_0_3 := cell_up hb3 (by omega) b0_0_2
  clear b0_0_2
  have b0_1_3 := cell_up hb3 (by omega) b0_1_2
  clear b0_1_2
  have z0_3 : w.heap.size < w3.heap.size := (by omega)
  clear z0_2
  have o_a0_3 := oc2.step0 hb3
  go_wp2_with fail
  refine (toClock_ct _ H0 x0 (rdClock_up h0 hB3) (by omega)).mono ?_
  rintro e w4 ⟨H4x, rfl, oc4, fc4, hb4⟩
  have hB4 := below_step0 hB3 hb4 hB3.size
  have sz4 := hb4.size
  have b0_0_4 := cell_up hb4 (by omega) b0_0_3
  clear b0_0_3
  have b0_1_4 := cell_up hb4 (by omega) b0_1_3
  clear b0_1_3
  have z0_4 : w.heap.size < w4.heap.size := (by omega)
  clear z0_3
  have o_a0_4 := o_a0_3.step0 hb4
  clear o_a0_3
  go_wp2_with fail
  refine (PinnedAt_impl _ _ x0 wk  (oc4.alloc_ _).rd' ).mono ?_
  rintro e w5 ⟨rfl, hb5⟩
  have hB5 := below_step hB4 hb5 hB4.size
  have sz5 := hb5.size
  simp only [World.size_alloc] at sz5
  have b0_0_5 := up2 hb5 (by omega) b0_0_4
  clear b0_0_4
  have b0_1_5 := up2 hb5 (by omega) b0_1_4
  clear b0_1_4
  have z0_5 : w.heap.size < w5.heap.size := (by omega)
  clear z0_4
  have b1_0_5 := new_cell hb5 (j := 0) rfl
  have b1_1_5 := new_cell hb5 (j := 1) rfl
  have z1_5 : w4.heap.size < w5.heap.size := (by omega)
  have o_a0_5 := o_a0_4.step hb5
  clear o_a0_4
  have o_x0_5 := oc4.step hb5
  go_wp2_with fail
  go_region_with (first | (go_at_call 22; refine (toClock_ct _ H0 x0 (rdClock_up h0 hB5.drew) (by omega)).mono ?_; rintro e w6 ⟨H6x, rfl, oc6, fc6, hb6⟩; replace hb6 : Below w5.heap.size w5 w6 := ⟨hb6.os, hb6.tape, hb6.output, hb6.size, hb6.block⟩; have hB6 := below_step0 hB5 hb6 hB5.size; have sz6 := hb6.size; have b0_0_6 := cell_up hb6 (by omega) b0_0_5; clear b0_0_5; have b0_1_6 := cell_up hb6 (by omega) b0_1_5; clear b0_1_5; have z0_6 : w.heap.size < w6.heap.size := (by omega); clear z0_5; have b1_0_6 := cell_up hb6 (by omega) b1_0_5; clear b1_0_5; have b1_1_6 := cell_up hb6 (by omega) b1_1_5; clear b1_1_5; have z1_6 : w4.heap.size < w6.heap.size := (by omega); clear z1_5; have o_a0_6 := o_a0_5.step0 hb6; clear o_a0_5; have o_x0_6 := o_x0_5.step0 hb6; clear o_x0_5; replace fc6 : ∀ g ∈ _, w5.heap.size ≤ g := fc6) | (go_at_call 17; refine (eqClock_ct _ _ _ _ o_x0_6.rd' oc6.rd' (by omega)).mono ?_; rintro e w7 ⟨rfl, hb7⟩; have hB7 := below_step0 hB6 hb7 hB6.size; have sz7 := hb7.size; have b0_0_7 := cell_up hb7 (by omega) b0_0_6; clear b0_0_6; have b0_1_7 := cell_up hb7 (by omega) b0_1_6; clear b0_1_6; have z0_7 : w.heap.size < w7.heap.size := (by omega); clear z0_6; have b1_0_7 := cell_up hb7 (by omega) b1_0_6; clear b1_0_6; have b1_1_7 := cell_up hb7 (by omega) b1_1_6; clear b1_1_6; have z1_7 : w4.heap.size < w7.heap.size := (by omega); clear z1_6; have o_a0_7 := o_a0_6.step0 hb7; clear o_a0_6; have o_x0_7 := o_x0_6.step0 hb7; clear o_x0_6; have o_b0_7 := oc6.step0 hb7))
  all_goals
    go_wp2_with fail
    go_ret
    exact ⟨rfl, hB7⟩
end Go.Proofs.Ytfhdpnnepfnjhaa
