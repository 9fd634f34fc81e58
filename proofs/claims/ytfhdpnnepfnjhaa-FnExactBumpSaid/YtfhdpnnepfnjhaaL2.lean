/-
  The laws on clocks, walked.
-/
import Derived.Test.YtfhdpnnepfnjhaaT
import Derived.Test.YtfhdpnnepfnjhaaL
import Derived.Deep.QuietTactic
import Derived.BigQuiet
import Derived.Deep.LoopGhost
import Derived.Deep.RegionHeld3
import Derived.Test.YtfhdpnnepfnjhaaN
import Derived.Test.YtfhdpnnepfnjhaaA
import Derived.WalkSpells
import Derived.Laws.Cover3
import Derived.Test.YtfhdpnnepfnjhaaL0
namespace Go.Proofs.Ytfhdpnnepfnjhaa
open Go.RowKit

set_option maxRecDepth 100000 in
set_option maxHeartbeats 4000000 in
theorem FnExactBump_law (w : World) (H0 : HClock) (x0 : Clock) (e0 : Int) (be : I64 e0) (h0 : RdClock w w.heap.size H0 x0) :
    Calls Try.prog 8 #[.agg #[.int .i64 x0.Epoch, .slice H0.Pins.a H0.Pins.len H0.Pins.cap], .int .i64 e0] w fun e w' => e = .returned (.bool true) ∧ Below w.heap.size w w' := by
  by_cases hs : sizeClock x0 ≤ 1048576
  case neg =>
    have HL := Hid.mk_ (leftOf_neg hs)
    go_enter Try.func8, Try.ntmps8
    have hB0 : Below w.heap.size w w := Below.refl _ _
    go_wp2_with fail
    refine (szClock_ct _ H0 x0 1048576 (rdClock_up h0 (hB0.alloc hB0.size _)) (by omega)).mono ?_
    rw [HL.out]
    rintro e w1 ⟨rfl, hb1⟩
    go_wp2_with fail
    go_ret
    exact ⟨rfl, below_step hB0 hb1 (Nat.le_refl _)⟩
  have HL0 := Hid.mk_ (leftOf_pos hs)
  have hs0 : x0.Pins.length ≤ 1048576 := hs
  have hn0 : nMarkClock x0 = x0.Pins.length * 4 := rfl
  have hl1 : (bumpC x0 e0).1.Pins.length = x0.Pins.length := by unfold bumpC; (repeat' split) <;> simp
  have hl2 : nMarkClock (bumpC x0 e0).1 = (bumpC x0 e0).1.Pins.length * 4 := rfl
  go_enter Try.func8, Try.ntmps8
  have hB0 : Below w.heap.size w w := Below.refl _ _
  go_wp2_with fail
  refine (szClock_ct _ H0 x0 1048576 (rdClock_up h0 (hB0.alloc hB0.size _)) (by omega)).mono ?_
  rw [HL0.out]
  rintro e w1 ⟨rfl, hb1⟩
  have hB1 := below_step hB0 hb1 hB0.size
  have sz1 := hb1.size
  simp only [World.size_alloc] at sz1
  have b0_0_1 := new_cell hb1 (j := 0) rfl
  have b0_1_1 := new_cell hb1 (j := 1) rfl
  have z0_1 : w.heap.size < w1.heap.size := (by omega)
  go_wp2_with fail
  refine (toClock_ct _ H0 x0 (rdClock_up h0 hB1) (by omega)).mono ?_
  rintro e w2 ⟨H2x, rfl, oc2, fc2, hb2⟩
  have hB2 := below_step0 hB1 hb2 hB1.size
  have sz2 := hb2.size
  have b0_0_2 := cell_up hb2 (by omega) b0_0_1
  clear b0_0_1
  have b0_1_2 := cell_up hb2 (by omega) b0_1_1
  clear b0_1_1
  have z0_2 : w.heap.size < w2.heap.size := (by omega)
  clear z0_1
  go_wp2_with fail
  refine (Bump_spec _ _ x0 e0 be oc2.rd' (by omega)).mono ?_
  rintro e w3 ⟨H3x, rfl, oc3, fc3, hb3⟩
  have hB3 := below_step0 hB2 hb3 hB2.size
  have sz3 := hb3.size
  have b0_0_3 := cell_up hb3 (by omega) b0_0_2
  clear b0_0_2
  have b0_1_3 := cell_up hb3 (by omega) b0_1_2
  clear b0_1_2
  have z0_3 : w.heap.size < w3.heap.size := (by omega)
  clear z0_2
  have o_a0_3 := oc2.step0 hb3
  go_wp2_with fail
  refine (toClock_ct _ H0 x0 (rdClock_up h0 (hB3.alloc hB3.size _)) (by omega)).mono ?_
  rintro e w4 ⟨H4x, rfl, oc4, fc4, hb4⟩
  have hB4 := below_step hB3 hb4 hB3.size
  have sz4 := hb4.size
  simp only [World.size_alloc] at sz4
  have b0_0_4 := up2 hb4 (by omega) b0_0_3
  clear b0_0_3
  have b0_1_4 := up2 hb4 (by omega) b0_1_3
  clear b0_1_3
  have z0_4 : w.heap.size < w4.heap.size := (by omega)
  clear z0_3
  have b1_0_4 := new_cell hb4 (j := 0) rfl
  have b1_1_4 := new_cell hb4 (j := 1) rfl
  have z1_4 : w3.heap.size < w4.heap.size := (by omega)
  have o_a0_4 := o_a0_3.step hb4
  clear o_a0_3
  have o_W_4 := oc3.step hb4
  simp only [World.size_alloc] at fc4
  go_wp2_with fail
  refine (Bump_impl _ _ x0 e0 be (oc4.alloc_ _).rd' (by omega)).mono ?_
  rintro e w5 ⟨H5x, rfl, oc5, fc5, hb5⟩
  have hB5 := below_step hB4 hb5 hB4.size
  have sz5 := hb5.size
  simp only [World.size_alloc] at sz5
  have b0_0_5 := up2 hb5 (by omega) b0_0_4
  clear b0_0_4
  have b0_1_5 := up2 hb5 (by omega) b0_1_4
  clear b0_1_4
  have z0_5 : w.heap.size < w5.heap.size := (by omega)
  clear z0_4
  have b1_0_5 := up2 hb5 (by omega) b1_0_4
  clear b1_0_4
  have b1_1_5 := up2 hb5 (by omega) b1_1_4
  clear b1_1_4
  have z1_5 : w3.heap.size < w5.heap.size := (by omega)
  clear z1_4
  have b2_0_5 := new_cell hb5 (j := 0) rfl
  have b2_1_5 := new_cell hb5 (j := 1) rfl
  have z2_5 : w4.heap.size < w5.heap.size := (by omega)
  have o_a0_5 := o_a0_4.step hb5
  clear o_a0_4
  have o_W_5 := o_W_4.step hb5
  clear o_W_4
  have o_x0_5 := oc4.step hb5
  simp only [World.size_alloc] at fc5
  go_wp2_with fail
  refine (eqClock_ct _ _ _ _ (oc5.alloc_ _).rd' (o_W_5.alloc_ _).rd' (by omega)).mono ?_
  rintro e w6 ⟨rfl, hb6⟩
  have hB6 := below_step hB5 hb6 hB5.size
  have sz6 := hb6.size
  simp only [World.size_alloc] at sz6
  have b0_0_6 := up2 hb6 (by omega) b0_0_5
  clear b0_0_5
  have b0_1_6 := up2 hb6 (by omega) b0_1_5
  clear b0_1_5
  have z0_6 : w.heap.size < w6.heap.size := (by omega)
  clear z0_5
  have b1_0_6 := up2 hb6 (by omega) b1_0_5
  clear b1_0_5
  have b1_1_6 := up2 hb6 (by omega) b1_1_5
  clear b1_1_5
  have z1_6 : w3.heap.size < w6.heap.size := (by omega)
  clear z1_5
  have b2_0_6 := up2 hb6 (by omega) b2_0_5
  clear b2_0_5
  have b2_1_6 := up2 hb6 (by omega) b2_1_5
  clear b2_1_5
  have z2_6 : w4.heap.size < w6.heap.size := (by omega)
  clear z2_5
  have b3_0_6 := new_cell hb6 (j := 0) rfl
  have b3_1_6 := new_cell hb6 (j := 1) rfl
  have z3_6 : w5.heap.size < w6.heap.size := (by omega)
  have o_a0_6 := o_a0_5.step hb6
  clear o_a0_5
  have o_W_6 := o_W_5.step hb6
  clear o_W_5
  have o_x0_6 := o_x0_5.step hb6
  clear o_x0_5
  have o_G_6 := oc5.step hb6
  go_wp2_with fail
  go_region_with (first | (go_at_call 22; refine (toClock_ct _ H0 x0 (rdClock_up h0 hB6.drew) (by omega)).mono ?_; rintro e w7 ⟨H7x, rfl, oc7, fc7, hb7⟩; replace hb7 : Below w6.heap.size w6 w7 := ⟨hb7.os, hb7.tape, hb7.output, hb7.size, hb7.block⟩; have hB7 := below_step0 hB6 hb7 hB6.size; have sz7 := hb7.size; have b0_0_7 := cell_up hb7 (by omega) b0_0_6; clear b0_0_6; have b0_1_7 := cell_up hb7 (by omega) b0_1_6; clear b0_1_6; have z0_7 : w.heap.size < w7.heap.size := (by omega); clear z0_6; have b1_0_7 := cell_up hb7 (by omega) b1_0_6; clear b1_0_6; have b1_1_7 := cell_up hb7 (by omega) b1_1_6; clear b1_1_6; have z1_7 : w3.heap.size < w7.heap.size := (by omega); clear z1_6; have b2_0_7 := cell_up hb7 (by omega) b2_0_6; clear b2_0_6; have b2_1_7 := cell_up hb7 (by omega) b2_1_6; clear b2_1_6; have z2_7 : w4.heap.size < w7.heap.size := (by omega); clear z2_6; have b3_0_7 := cell_up hb7 (by omega) b3_0_6; clear b3_0_6; have b3_1_7 := cell_up hb7 (by omega) b3_1_6; clear b3_1_6; have z3_7 : w5.heap.size < w7.heap.size := (by omega); clear z3_6; have o_a0_7 := o_a0_6.step0 hb7; clear o_a0_6; have o_W_7 := o_W_6.step0 hb7; clear o_W_6; have o_x0_7 := o_x0_6.step0 hb7; clear o_x0_6; have o_G_7 := o_G_6.step0 hb7; clear o_G_6; replace fc7 : ∀ g ∈ _, w6.heap.size ≤ g := fc7) | (go_at_call 17; refine (eqClock_ct _ _ _ _ o_x0_7.rd' oc7.rd' (by omega)).mono ?_; rintro e w8 ⟨rfl, hb8⟩; have hB8 := below_step0 hB7 hb8 hB7.size; have sz8 := hb8.size; have b0_0_8 := cell_up hb8 (by omega) b0_0_7; clear b0_0_7; have b0_1_8 := cell_up hb8 (by omega) b0_1_7; clear b0_1_7; have z0_8 : w.heap.size < w8.heap.size := (by omega); clear z0_7; have b1_0_8 := cell_up hb8 (by omega) b1_0_7; clear b1_0_7; have b1_1_8 := cell_up hb8 (by omega) b1_1_7; clear b1_1_7; have z1_8 : w3.heap.size < w8.heap.size := (by omega); clear z1_7; have b2_0_8 := cell_up hb8 (by omega) b2_0_7; clear b2_0_7; have b2_1_8 := cell_up hb8 (by omega) b2_1_7; clear b2_1_7; have z2_8 : w4.heap.size < w8.heap.size := (by omega); clear z2_7; have b3_0_8 := cell_up hb8 (by omega) b3_0_7; clear b3_0_7; have b3_1_8 := cell_up hb8 (by omega) b3_1_7; clear b3_1_7; have z3_8 : w5.heap.size < w8.heap.size := (by omega); clear z3_7; have o_a0_8 := o_a0_7.step0 hb8; clear o_a0_7; have o_W_8 := o_W_7.step0 hb8; clear o_W_7; have o_x0_8 := o_x0_7.step0 hb8; clear o_x0_7; have o_G_8 := o_G_7.step0 hb8; clear o_G_7; have o_b0_8 := oc7.step0 hb8))
  all_goals
    go_wp2_with fail
    refine (markClock_ct _ _ _ _ o_x0_8 (by decide) (by omega)).mono ?_
    rintro e w9 ⟨rfl, om9, hx9⟩
    have hc9 := hx9
    have hB9 := hB8.trans (hc9.below hB8.size (fun g hm => by have q := fc4 g hm; have := hB0.size; omega))
    have sz9 := hc9.size
    have b0_0_9 := (hc9.cell w.heap.size 0 z0_8 (fun hm => by have p := oc4.lt _ hm; have q := fc4 _ hm; omega)).trans b0_0_8
    clear b0_0_8
    have b0_1_9 := (hc9.cell w.heap.size 1 z0_8 (fun hm => by have p := oc4.lt _ hm; have q := fc4 _ hm; omega)).trans b0_1_8
    clear b0_1_8
    have z0_9 : w.heap.size < w9.heap.size := (by omega)
    clear z0_8
    have b1_0_9 := (hc9.cell w3.heap.size 0 z1_8 (fun hm => by have p := oc4.lt _ hm; have q := fc4 _ hm; omega)).trans b1_0_8
    clear b1_0_8
    have b1_1_9 := (hc9.cell w3.heap.size 1 z1_8 (fun hm => by have p := oc4.lt _ hm; have q := fc4 _ hm; omega)).trans b1_1_8
    clear b1_1_8
    have z1_9 : w3.heap.size < w9.heap.size := (by omega)
    clear z1_8
    have b2_0_9 := (hc9.cell w4.heap.size 0 z2_8 (fun hm => by have p := oc4.lt _ hm; have q := fc4 _ hm; omega)).trans b2_0_8
    clear b2_0_8
    have b2_1_9 := (hc9.cell w4.heap.size 1 z2_8 (fun hm => by have p := oc4.lt _ hm; have q := fc4 _ hm; omega)).trans b2_1_8
    clear b2_1_8
    have z2_9 : w4.heap.size < w9.heap.size := (by omega)
    clear z2_8
    have b3_0_9 := (hc9.cell w5.heap.size 0 z3_8 (fun hm => by have p := oc4.lt _ hm; have q := fc4 _ hm; omega)).trans b3_0_8
    clear b3_0_8
    have b3_1_9 := (hc9.cell w5.heap.size 1 z3_8 (fun hm => by have p := oc4.lt _ hm; have q := fc4 _ hm; omega)).trans b3_1_8
    clear b3_1_8
    have z3_9 : w5.heap.size < w9.heap.size := (by omega)
    clear z3_8
    have o_a0_9 := o_a0_8.chg hc9 (fun g hg hm => by have p := oc2.lt g hg; have q := fc4 g hm; omega)
    clear o_a0_8
    have o_W_9 := o_W_8.chg hc9 (fun g hg hm => by have p := oc3.lt g hg; have q := fc4 g hm; omega)
    clear o_W_8
    have o_G_9 := o_G_8.chg hc9 (fun g hg hm => by have p := oc4.lt g hm; have q := fc5 g hg; omega)
    clear o_G_8
    have o_b0_9 := o_b0_8.chg hc9 (fun g hg hm => by have p := oc4.lt g hm; have q := fc7 g hg; omega)
    clear o_b0_8
    clear o_x0_8
    go_wp2_with fail
    refine (eqClock_ct _ _ _ _ o_G_9.rd' o_W_9.rd' (by omega)).mono ?_
    rintro e w10 ⟨rfl, hb10⟩
    have hB10 := below_step0 hB9 hb10 hB9.size
    have sz10 := hb10.size
    have b0_0_10 := cell_up hb10 (by omega) b0_0_9
    clear b0_0_9
    have b0_1_10 := cell_up hb10 (by omega) b0_1_9
    clear b0_1_9
    have z0_10 : w.heap.size < w10.heap.size := (by omega)
    clear z0_9
    have b1_0_10 := cell_up hb10 (by omega) b1_0_9
    clear b1_0_9
    have b1_1_10 := cell_up hb10 (by omega) b1_1_9
    clear b1_1_9
    have z1_10 : w3.heap.size < w10.heap.size := (by omega)
    clear z1_9
    have b2_0_10 := cell_up hb10 (by omega) b2_0_9
    clear b2_0_9
    have b2_1_10 := cell_up hb10 (by omega) b2_1_9
    clear b2_1_9
    have z2_10 : w4.heap.size < w10.heap.size := (by omega)
    clear z2_9
    have b3_0_10 := cell_up hb10 (by omega) b3_0_9
    clear b3_0_9
    have b3_1_10 := cell_up hb10 (by omega) b3_1_9
    clear b3_1_9
    have z3_10 : w5.heap.size < w10.heap.size := (by omega)
    clear z3_9
    have o_a0_10 := o_a0_9.step0 hb10
    clear o_a0_9
    have o_W_10 := o_W_9.step0 hb10
    clear o_W_9
    have o_x0_10 := om9.step0 hb10
    clear om9
    have o_G_10 := o_G_9.step0 hb10
    clear o_G_9
    have o_b0_10 := o_b0_9.step0 hb10
    clear o_b0_9
    go_wp2_with fail
    refine (markClock_ct _ _ _ _ o_G_10 (by decide) (by omega)).mono ?_
    rintro e w11 ⟨rfl, om11, hx11⟩
    have hc11 := hx11
    have hB11 := hB10.trans (hc11.below hB10.size (fun g hm => by have q := fc5 g hm; have := hB0.size; omega))
    have sz11 := hc11.size
    have b0_0_11 := (hc11.cell w.heap.size 0 z0_10 (fun hm => by have p := oc5.lt _ hm; have q := fc5 _ hm; omega)).trans b0_0_10
    clear b0_0_10
    have b0_1_11 := (hc11.cell w.heap.size 1 z0_10 (fun hm => by have p := oc5.lt _ hm; have q := fc5 _ hm; omega)).trans b0_1_10
    clear b0_1_10
    have z0_11 : w.heap.size < w11.heap.size := (by omega)
    clear z0_10
    have b1_0_11 := (hc11.cell w3.heap.size 0 z1_10 (fun hm => by have p := oc5.lt _ hm; have q := fc5 _ hm; omega)).trans b1_0_10
    clear b1_0_10
    have b1_1_11 := (hc11.cell w3.heap.size 1 z1_10 (fun hm => by have p := oc5.lt _ hm; have q := fc5 _ hm; omega)).trans b1_1_10
    clear b1_1_10
    have z1_11 : w3.heap.size < w11.heap.size := (by omega)
    clear z1_10
    have b2_0_11 := (hc11.cell w4.heap.size 0 z2_10 (fun hm => by have p := oc5.lt _ hm; have q := fc5 _ hm; omega)).trans b2_0_10
    clear b2_0_10
    have b2_1_11 := (hc11.cell w4.heap.size 1 z2_10 (fun hm => by have p := oc5.lt _ hm; have q := fc5 _ hm; omega)).trans b2_1_10
    clear b2_1_10
    have z2_11 : w4.heap.size < w11.heap.size := (by omega)
    clear z2_10
    have b3_0_11 := (hc11.cell w5.heap.size 0 z3_10 (fun hm => by have p := oc5.lt _ hm; have q := fc5 _ hm; omega)).trans b3_0_10
    clear b3_0_10
    have b3_1_11 := (hc11.cell w5.heap.size 1 z3_10 (fun hm => by have p := oc5.lt _ hm; have q := fc5 _ hm; omega)).trans b3_1_10
    clear b3_1_10
    have z3_11 : w5.heap.size < w11.heap.size := (by omega)
    clear z3_10
    have o_a0_11 := o_a0_10.chg hc11 (fun g hg hm => by have p := oc2.lt g hg; have q := fc5 g hm; omega)
    clear o_a0_10
    have o_W_11 := o_W_10.chg hc11 (fun g hg hm => by have p := oc3.lt g hg; have q := fc5 g hm; omega)
    clear o_W_10
    have o_x0_11 := o_x0_10.chg hc11 (fun g hg hm => by have p := oc4.lt g hg; have q := fc5 g hm; omega)
    clear o_x0_10
    have o_b0_11 := o_b0_10.chg hc11 (fun g hg hm => by have p := oc5.lt g hm; have q := fc7 g hg; omega)
    clear o_b0_10
    clear o_G_10
    go_wp2_with fail
    refine (heldClock_ct _ _ _ _ om11.rd' (by decide) (by omega)).mono ?_
    rintro e w12 ⟨rfl, hb12⟩
    have hB12 := below_step0 hB11 hb12 hB11.size
    have sz12 := hb12.size
    have b0_0_12 := cell_up hb12 (by omega) b0_0_11
    clear b0_0_11
    have b0_1_12 := cell_up hb12 (by omega) b0_1_11
    clear b0_1_11
    have z0_12 : w.heap.size < w12.heap.size := (by omega)
    clear z0_11
    have b1_0_12 := cell_up hb12 (by omega) b1_0_11
    clear b1_0_11
    have b1_1_12 := cell_up hb12 (by omega) b1_1_11
    clear b1_1_11
    have z1_12 : w3.heap.size < w12.heap.size := (by omega)
    clear z1_11
    have b2_0_12 := cell_up hb12 (by omega) b2_0_11
    clear b2_0_11
    have b2_1_12 := cell_up hb12 (by omega) b2_1_11
    clear b2_1_11
    have z2_12 : w4.heap.size < w12.heap.size := (by omega)
    clear z2_11
    have b3_0_12 := cell_up hb12 (by omega) b3_0_11
    clear b3_0_11
    have b3_1_12 := cell_up hb12 (by omega) b3_1_11
    clear b3_1_11
    have z3_12 : w5.heap.size < w12.heap.size := (by omega)
    clear z3_11
    have o_a0_12 := o_a0_11.step0 hb12
    clear o_a0_11
    have o_W_12 := o_W_11.step0 hb12
    clear o_W_11
    have o_x0_12 := o_x0_11.step0 hb12
    clear o_x0_11
    have o_G_12 := om11.step0 hb12
    clear om11
    have o_b0_12 := o_b0_11.step0 hb12
    clear o_b0_11
    go_wp2_with fail
    refine (toClock_ct _ H0 x0 (rdClock_up h0 hB12) (by omega)).mono ?_
    rintro e w13 ⟨H13x, rfl, oc13, fc13, hb13⟩
    have hB13 := below_step0 hB12 hb13 hB12.size
    have sz13 := hb13.size
    have b0_0_13 := cell_up hb13 (by omega) b0_0_12
    clear b0_0_12
    have b0_1_13 := cell_up hb13 (by omega) b0_1_12
    clear b0_1_12
    have z0_13 : w.heap.size < w13.heap.size := (by omega)
    clear z0_12
    have b1_0_13 := cell_up hb13 (by omega) b1_0_12
    clear b1_0_12
    have b1_1_13 := cell_up hb13 (by omega) b1_1_12
    clear b1_1_12
    have z1_13 : w3.heap.size < w13.heap.size := (by omega)
    clear z1_12
    have b2_0_13 := cell_up hb13 (by omega) b2_0_12
    clear b2_0_12
    have b2_1_13 := cell_up hb13 (by omega) b2_1_12
    clear b2_1_12
    have z2_13 : w4.heap.size < w13.heap.size := (by omega)
    clear z2_12
    have b3_0_13 := cell_up hb13 (by omega) b3_0_12
    clear b3_0_12
    have b3_1_13 := cell_up hb13 (by omega) b3_1_12
    clear b3_1_12
    have z3_13 : w5.heap.size < w13.heap.size := (by omega)
    clear z3_12
    have o_a0_13 := o_a0_12.step0 hb13
    clear o_a0_12
    have o_W_13 := o_W_12.step0 hb13
    clear o_W_12
    have o_x0_13 := o_x0_12.step0 hb13
    clear o_x0_12
    have o_G_13 := o_G_12.step0 hb13
    clear o_G_12
    have o_b0_13 := o_b0_12.step0 hb13
    clear o_b0_12
    go_wp2_with fail
    refine (Bump_impl _ _ x0 e0 be oc13.rd' (by omega)).mono ?_
    rintro e w14 ⟨H14x, rfl, oc14, fc14, hb14⟩
    have hB14 := below_step0 hB13 hb14 hB13.size
    have sz14 := hb14.size
    have b0_0_14 := cell_up hb14 (by omega) b0_0_13
    clear b0_0_13
    have b0_1_14 := cell_up hb14 (by omega) b0_1_13
    clear b0_1_13
    have z0_14 : w.heap.size < w14.heap.size := (by omega)
    clear z0_13
    have b1_0_14 := cell_up hb14 (by omega) b1_0_13
    clear b1_0_13
    have b1_1_14 := cell_up hb14 (by omega) b1_1_13
    clear b1_1_13
    have z1_14 : w3.heap.size < w14.heap.size := (by omega)
    clear z1_13
    have b2_0_14 := cell_up hb14 (by omega) b2_0_13
    clear b2_0_13
    have b2_1_14 := cell_up hb14 (by omega) b2_1_13
    clear b2_1_13
    have z2_14 : w4.heap.size < w14.heap.size := (by omega)
    clear z2_13
    have b3_0_14 := cell_up hb14 (by omega) b3_0_13
    clear b3_0_13
    have b3_1_14 := cell_up hb14 (by omega) b3_1_13
    clear b3_1_13
    have z3_14 : w5.heap.size < w14.heap.size := (by omega)
    clear z3_13
    have o_a0_14 := o_a0_13.step0 hb14
    clear o_a0_13
    have o_W_14 := o_W_13.step0 hb14
    clear o_W_13
    have o_x0_14 := o_x0_13.step0 hb14
    clear o_x0_13
    have o_G_14 := o_G_13.step0 hb14
    clear o_G_13
    have o_b0_14 := o_b0_13.step0 hb14
    clear o_b0_13
    have o_y0_14 := oc13.step0 hb14
    go_wp2_with fail
    refine (eqClock_ct _ _ _ _ (oc14.alloc_ _).rd' (o_W_14.alloc_ _).rd' (by omega)).mono ?_
    rintro e w15 ⟨rfl, hb15⟩
    have hB15 := below_step hB14 hb15 hB14.size
    have sz15 := hb15.size
    simp only [World.size_alloc] at sz15
    have b0_0_15 := up2 hb15 (by omega) b0_0_14
    clear b0_0_14
    have b0_1_15 := up2 hb15 (by omega) b0_1_14
    clear b0_1_14
    have z0_15 : w.heap.size < w15.heap.size := (by omega)
    clear z0_14
    have b1_0_15 := up2 hb15 (by omega) b1_0_14
    clear b1_0_14
    have b1_1_15 := up2 hb15 (by omega) b1_1_14
    clear b1_1_14
    have z1_15 : w3.heap.size < w15.heap.size := (by omega)
    clear z1_14
    have b2_0_15 := up2 hb15 (by omega) b2_0_14
    clear b2_0_14
    have b2_1_15 := up2 hb15 (by omega) b2_1_14
    clear b2_1_14
    have z2_15 : w4.heap.size < w15.heap.size := (by omega)
    clear z2_14
    have b3_0_15 := up2 hb15 (by omega) b3_0_14
    clear b3_0_14
    have b3_1_15 := up2 hb15 (by omega) b3_1_14
    clear b3_1_14
    have z3_15 : w5.heap.size < w15.heap.size := (by omega)
    clear z3_14
    have b4_0_15 := new_cell hb15 (j := 0) rfl
    have b4_1_15 := new_cell hb15 (j := 1) rfl
    have z4_15 : w14.heap.size < w15.heap.size := (by omega)
    have o_a0_15 := o_a0_14.step hb15
    clear o_a0_14
    have o_W_15 := o_W_14.step hb15
    clear o_W_14
    have o_x0_15 := o_x0_14.step hb15
    clear o_x0_14
    have o_G_15 := o_G_14.step hb15
    clear o_G_14
    have o_b0_15 := o_b0_14.step hb15
    clear o_b0_14
    have o_y0_15 := o_y0_14.step hb15
    clear o_y0_14
    have o_H_15 := oc14.step hb15
    go_wp2_with fail
    refine (heldClock_ct _ _ _ _ o_G_15.rd' (by decide) (by omega)).mono ?_
    rintro e w16 ⟨rfl, hb16⟩
    have hB16 := below_step0 hB15 hb16 hB15.size
    have sz16 := hb16.size
    have b0_0_16 := cell_up hb16 (by omega) b0_0_15
    clear b0_0_15
    have b0_1_16 := cell_up hb16 (by omega) b0_1_15
    clear b0_1_15
    have z0_16 : w.heap.size < w16.heap.size := (by omega)
    clear z0_15
    have b1_0_16 := cell_up hb16 (by omega) b1_0_15
    clear b1_0_15
    have b1_1_16 := cell_up hb16 (by omega) b1_1_15
    clear b1_1_15
    have z1_16 : w3.heap.size < w16.heap.size := (by omega)
    clear z1_15
    have b2_0_16 := cell_up hb16 (by omega) b2_0_15
    clear b2_0_15
    have b2_1_16 := cell_up hb16 (by omega) b2_1_15
    clear b2_1_15
    have z2_16 : w4.heap.size < w16.heap.size := (by omega)
    clear z2_15
    have b3_0_16 := cell_up hb16 (by omega) b3_0_15
    clear b3_0_15
    have b3_1_16 := cell_up hb16 (by omega) b3_1_15
    clear b3_1_15
    have z3_16 : w5.heap.size < w16.heap.size := (by omega)
    clear z3_15
    have b4_0_16 := cell_up hb16 (by omega) b4_0_15
    clear b4_0_15
    have b4_1_16 := cell_up hb16 (by omega) b4_1_15
    clear b4_1_15
    have z4_16 : w14.heap.size < w16.heap.size := (by omega)
    clear z4_15
    have o_a0_16 := o_a0_15.step0 hb16
    clear o_a0_15
    have o_W_16 := o_W_15.step0 hb16
    clear o_W_15
    have o_x0_16 := o_x0_15.step0 hb16
    clear o_x0_15
    have o_G_16 := o_G_15.step0 hb16
    clear o_G_15
    have o_b0_16 := o_b0_15.step0 hb16
    clear o_b0_15
    have o_y0_16 := o_y0_15.step0 hb16
    clear o_y0_15
    have o_H_16 := o_H_15.step0 hb16
    clear o_H_15
    go_wp2_with fail
    go_ret
    exact ⟨rfl, hB16⟩
end Go.Proofs.Ytfhdpnnepfnjhaa
