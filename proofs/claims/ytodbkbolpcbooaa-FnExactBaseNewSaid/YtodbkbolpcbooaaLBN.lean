/-
  FnExactBaseNew, walked.
-/
import Derived.Test.YtodbkbolpcbooaaT
import Derived.Test.YtodbkbolpcbooaaL
import Derived.Deep.QuietTactic
import Derived.BigQuiet
import Derived.Deep.LoopGhost
import Derived.Deep.RegionHeld3
import Derived.Test.YtodbkbolpcbooaaN
import Derived.Test.YtodbkbolpcbooaaA
import Derived.WalkSpells
import Derived.Laws.Cover3
import Derived.Test.YtodbkbolpcbooaaMB
import Derived.Test.YtodbkbolpcbooaaNB
namespace Go.Proofs.Ytodbkbolpcbooaa
open Go.RowKit

set_option maxRecDepth 100000 in
set_option maxHeartbeats 4000000 in
theorem FnExactBaseNew_law (w : World)  :
    Calls Try.prog 6 #[] w fun e w' => e = .returned (.bool true) ∧ Below w.heap.size w w' := by
  have hn1 : sizeBase newBase ≤ 1000 := by
    simp [sizeBase, sizeMem, sizeHeap, sizeLists, sizeClock, szLL, newBase, newMem, newHeap, newLists, newClk]
  have hn2 : nMarkBase newBase ≤ 4000 := by have := nMark_size_Base newBase; omega
  go_enter Try.func6, Try.ntmps6
  have hB0 : Below w.heap.size w w := Below.refl _ _
  go_wp2_with fail
  refine (BaseNew_spec _     ).mono ?_
  rintro e w1 ⟨H1x, rfl, oc1, fc1, hb1⟩
  have hB1 := below_step0 hB0 hb1 hB0.size
  have sz1 := hb1.size
  go_wp2_with fail
  refine (BaseNew_impl _     ).mono ?_
  rintro e w2 ⟨H2x, rfl, oc2, fc2, hb2⟩
  have hB2 := below_step hB1 hb2 hB1.size
  have sz2 := hb2.size
  simp only [World.size_alloc] at sz2
  have b0_0_2 := new_cell hb2 (j := 0) rfl
  have b0_1_2 := new_cell hb2 (j := 1) rfl
  have b0_2_2 := new_cell hb2 (j := 2) rfl
  have b0_3_2 := new_cell hb2 (j := 3) rfl
  have b0_4_2 := new_cell hb2 (j := 4) rfl
  have b0_5_2 := new_cell hb2 (j := 5) rfl
  have b0_6_2 := new_cell hb2 (j := 6) rfl
  have b0_7_2 := new_cell hb2 (j := 7) rfl
  have z0_2 : w1.heap.size < w2.heap.size := (by omega)
  have o_W_2 := oc1.step hb2
  simp only [World.size_alloc] at fc2
  go_wp2_with fail
  refine (eqBase_ct _ _ _ _ (oc2.alloc_ _).rd' (o_W_2.alloc_ _).rd' (by omega)).mono ?_
  rintro e w3 ⟨rfl, hb3⟩
  have hB3 := below_step hB2 hb3 hB2.size
  have sz3 := hb3.size
  simp only [World.size_alloc] at sz3
  have b0_0_3 := up2 hb3 (by omega) b0_0_2
  clear b0_0_2
  have b0_1_3 := up2 hb3 (by omega) b0_1_2
  clear b0_1_2
  have b0_2_3 := up2 hb3 (by omega) b0_2_2
  clear b0_2_2
  have b0_3_3 := up2 hb3 (by omega) b0_3_2
  clear b0_3_2
  have b0_4_3 := up2 hb3 (by omega) b0_4_2
  clear b0_4_2
  have b0_5_3 := up2 hb3 (by omega) b0_5_2
  clear b0_5_2
  have b0_6_3 := up2 hb3 (by omega) b0_6_2
  clear b0_6_2
  have b0_7_3 := up2 hb3 (by omega) b0_7_2
  clear b0_7_2
  have z0_3 : w1.heap.size < w3.heap.size := (by omega)
  clear z0_2
  have b1_0_3 := new_cell hb3 (j := 0) rfl
  have b1_1_3 := new_cell hb3 (j := 1) rfl
  have b1_2_3 := new_cell hb3 (j := 2) rfl
  have b1_3_3 := new_cell hb3 (j := 3) rfl
  have b1_4_3 := new_cell hb3 (j := 4) rfl
  have b1_5_3 := new_cell hb3 (j := 5) rfl
  have b1_6_3 := new_cell hb3 (j := 6) rfl
  have b1_7_3 := new_cell hb3 (j := 7) rfl
  have z1_3 : w2.heap.size < w3.heap.size := (by omega)
  have o_W_3 := o_W_2.step hb3
  clear o_W_2
  have o_G_3 := oc2.step hb3
  go_wp2_with fail
  refine (markBase_ct _ _ _ _ o_G_3 (by decide) (by omega)).mono ?_
  rintro e w4 ⟨rfl, om4, hx4⟩
  have hc4 := hx4
  have hB4 := hB3.trans (hc4.below hB3.size (fun g hm => by have q := fc2 g hm; have := hB0.size; omega))
  have sz4 := hc4.size
  have b0_0_4 := (hc4.cell w1.heap.size 0 z0_3 (fun hm => by have p := oc2.lt _ hm; have q := fc2 _ hm; omega)).trans b0_0_3
  clear b0_0_3
  have b0_1_4 := (hc4.cell w1.heap.size 1 z0_3 (fun hm => by have p := oc2.lt _ hm; have q := fc2 _ hm; omega)).trans b0_1_3
  clear b0_1_3
  have b0_2_4 := (hc4.cell w1.heap.size 2 z0_3 (fun hm => by have p := oc2.lt _ hm; have q := fc2 _ hm; omega)).trans b0_2_3
  clear b0_2_3
  have b0_3_4 := (hc4.cell w1.heap.size 3 z0_3 (fun hm => by have p := oc2.lt _ hm; have q := fc2 _ hm; omega)).trans b0_3_3
  clear b0_3_3
  have b0_4_4 := (hc4.cell w1.heap.size 4 z0_3 (fun hm => by have p := oc2.lt _ hm; have q := fc2 _ hm; omega)).trans b0_4_3
  clear b0_4_3
  have b0_5_4 := (hc4.cell w1.heap.size 5 z0_3 (fun hm => by have p := oc2.lt _ hm; have q := fc2 _ hm; omega)).trans b0_5_3
  clear b0_5_3
  have b0_6_4 := (hc4.cell w1.heap.size 6 z0_3 (fun hm => by have p := oc2.lt _ hm; have q := fc2 _ hm; omega)).trans b0_6_3
  clear b0_6_3
  have b0_7_4 := (hc4.cell w1.heap.size 7 z0_3 (fun hm => by have p := oc2.lt _ hm; have q := fc2 _ hm; omega)).trans b0_7_3
  clear b0_7_3
  have z0_4 : w1.heap.size < w4.heap.size := (by omega)
  clear z0_3
  have b1_0_4 := (hc4.cell w2.heap.size 0 z1_3 (fun hm => by have p := oc2.lt _ hm; have q := fc2 _ hm; omega)).trans b1_0_3
  clear b1_0_3
  have b1_1_4 := (hc4.cell w2.heap.size 1 z1_3 (fun hm => by have p := oc2.lt _ hm; have q := fc2 _ hm; omega)).trans b1_1_3
  clear b1_1_3
  have b1_2_4 := (hc4.cell w2.heap.size 2 z1_3 (fun hm => by have p := oc2.lt _ hm; have q := fc2 _ hm; omega)).trans b1_2_3
  clear b1_2_3
  have b1_3_4 := (hc4.cell w2.heap.size 3 z1_3 (fun hm => by have p := oc2.lt _ hm; have q := fc2 _ hm; omega)).trans b1_3_3
  clear b1_3_3
  have b1_4_4 := (hc4.cell w2.heap.size 4 z1_3 (fun hm => by have p := oc2.lt _ hm; have q := fc2 _ hm; omega)).trans b1_4_3
  clear b1_4_3
  have b1_5_4 := (hc4.cell w2.heap.size 5 z1_3 (fun hm => by have p := oc2.lt _ hm; have q := fc2 _ hm; omega)).trans b1_5_3
  clear b1_5_3
  have b1_6_4 := (hc4.cell w2.heap.size 6 z1_3 (fun hm => by have p := oc2.lt _ hm; have q := fc2 _ hm; omega)).trans b1_6_3
  clear b1_6_3
  have b1_7_4 := (hc4.cell w2.heap.size 7 z1_3 (fun hm => by have p := oc2.lt _ hm; have q := fc2 _ hm; omega)).trans b1_7_3
  clear b1_7_3
  have z1_4 : w2.heap.size < w4.heap.size := (by omega)
  clear z1_3
  have o_W_4 := o_W_3.chg hc4 (fun g hg hm => by have p := oc1.lt g hg; have q := fc2 g hm; omega)
  clear o_W_3
  clear o_G_3
  go_wp2_with fail
  refine (heldBase_ct _ _ _ _ om4.rd' (by decide) (by omega)).mono ?_
  rintro e w5 ⟨rfl, hb5⟩
  have hB5 := below_step0 hB4 hb5 hB4.size
  have sz5 := hb5.size
  have b0_0_5 := cell_up hb5 (by omega) b0_0_4
  clear b0_0_4
  have b0_1_5 := cell_up hb5 (by omega) b0_1_4
  clear b0_1_4
  have b0_2_5 := cell_up hb5 (by omega) b0_2_4
  clear b0_2_4
  have b0_3_5 := cell_up hb5 (by omega) b0_3_4
  clear b0_3_4
  have b0_4_5 := cell_up hb5 (by omega) b0_4_4
  clear b0_4_4
  have b0_5_5 := cell_up hb5 (by omega) b0_5_4
  clear b0_5_4
  have b0_6_5 := cell_up hb5 (by omega) b0_6_4
  clear b0_6_4
  have b0_7_5 := cell_up hb5 (by omega) b0_7_4
  clear b0_7_4
  have z0_5 : w1.heap.size < w5.heap.size := (by omega)
  clear z0_4
  have b1_0_5 := cell_up hb5 (by omega) b1_0_4
  clear b1_0_4
  have b1_1_5 := cell_up hb5 (by omega) b1_1_4
  clear b1_1_4
  have b1_2_5 := cell_up hb5 (by omega) b1_2_4
  clear b1_2_4
  have b1_3_5 := cell_up hb5 (by omega) b1_3_4
  clear b1_3_4
  have b1_4_5 := cell_up hb5 (by omega) b1_4_4
  clear b1_4_4
  have b1_5_5 := cell_up hb5 (by omega) b1_5_4
  clear b1_5_4
  have b1_6_5 := cell_up hb5 (by omega) b1_6_4
  clear b1_6_4
  have b1_7_5 := cell_up hb5 (by omega) b1_7_4
  clear b1_7_4
  have z1_5 : w2.heap.size < w5.heap.size := (by omega)
  clear z1_4
  have o_W_5 := o_W_4.step0 hb5
  clear o_W_4
  have o_G_5 := om4.step0 hb5
  clear om4
  go_wp2_with fail
  refine (BaseNew_impl _     ).mono ?_
  rintro e w6 ⟨H6x, rfl, oc6, fc6, hb6⟩
  have hB6 := below_step0 hB5 hb6 hB5.size
  have sz6 := hb6.size
  have b0_0_6 := cell_up hb6 (by omega) b0_0_5
  clear b0_0_5
  have b0_1_6 := cell_up hb6 (by omega) b0_1_5
  clear b0_1_5
  have b0_2_6 := cell_up hb6 (by omega) b0_2_5
  clear b0_2_5
  have b0_3_6 := cell_up hb6 (by omega) b0_3_5
  clear b0_3_5
  have b0_4_6 := cell_up hb6 (by omega) b0_4_5
  clear b0_4_5
  have b0_5_6 := cell_up hb6 (by omega) b0_5_5
  clear b0_5_5
  have b0_6_6 := cell_up hb6 (by omega) b0_6_5
  clear b0_6_5
  have b0_7_6 := cell_up hb6 (by omega) b0_7_5
  clear b0_7_5
  have z0_6 : w1.heap.size < w6.heap.size := (by omega)
  clear z0_5
  have b1_0_6 := cell_up hb6 (by omega) b1_0_5
  clear b1_0_5
  have b1_1_6 := cell_up hb6 (by omega) b1_1_5
  clear b1_1_5
  have b1_2_6 := cell_up hb6 (by omega) b1_2_5
  clear b1_2_5
  have b1_3_6 := cell_up hb6 (by omega) b1_3_5
  clear b1_3_5
  have b1_4_6 := cell_up hb6 (by omega) b1_4_5
  clear b1_4_5
  have b1_5_6 := cell_up hb6 (by omega) b1_5_5
  clear b1_5_5
  have b1_6_6 := cell_up hb6 (by omega) b1_6_5
  clear b1_6_5
  have b1_7_6 := cell_up hb6 (by omega) b1_7_5
  clear b1_7_5
  have z1_6 : w2.heap.size < w6.heap.size := (by omega)
  clear z1_5
  have o_W_6 := o_W_5.step0 hb6
  clear o_W_5
  have o_G_6 := o_G_5.step0 hb6
  clear o_G_5
  go_wp2_with fail
  refine (eqBase_ct _ _ _ _ (oc6.alloc_ _).rd' (o_W_6.alloc_ _).rd' (by omega)).mono ?_
  rintro e w7 ⟨rfl, hb7⟩
  have hB7 := below_step hB6 hb7 hB6.size
  have sz7 := hb7.size
  simp only [World.size_alloc] at sz7
  have b0_0_7 := up2 hb7 (by omega) b0_0_6
  clear b0_0_6
  have b0_1_7 := up2 hb7 (by omega) b0_1_6
  clear b0_1_6
  have b0_2_7 := up2 hb7 (by omega) b0_2_6
  clear b0_2_6
  have b0_3_7 := up2 hb7 (by omega) b0_3_6
  clear b0_3_6
  have b0_4_7 := up2 hb7 (by omega) b0_4_6
  clear b0_4_6
  have b0_5_7 := up2 hb7 (by omega) b0_5_6
  clear b0_5_6
  have b0_6_7 := up2 hb7 (by omega) b0_6_6
  clear b0_6_6
  have b0_7_7 := up2 hb7 (by omega) b0_7_6
  clear b0_7_6
  have z0_7 : w1.heap.size < w7.heap.size := (by omega)
  clear z0_6
  have b1_0_7 := up2 hb7 (by omega) b1_0_6
  clear b1_0_6
  have b1_1_7 := up2 hb7 (by omega) b1_1_6
  clear b1_1_6
  have b1_2_7 := up2 hb7 (by omega) b1_2_6
  clear b1_2_6
  have b1_3_7 := up2 hb7 (by omega) b1_3_6
  clear b1_3_6
  have b1_4_7 := up2 hb7 (by omega) b1_4_6
  clear b1_4_6
  have b1_5_7 := up2 hb7 (by omega) b1_5_6
  clear b1_5_6
  have b1_6_7 := up2 hb7 (by omega) b1_6_6
  clear b1_6_6
  have b1_7_7 := up2 hb7 (by omega) b1_7_6
  clear b1_7_6
  have z1_7 : w2.heap.size < w7.heap.size := (by omega)
  clear z1_6
  have b2_0_7 := new_cell hb7 (j := 0) rfl
  have b2_1_7 := new_cell hb7 (j := 1) rfl
  have b2_2_7 := new_cell hb7 (j := 2) rfl
  have b2_3_7 := new_cell hb7 (j := 3) rfl
  have b2_4_7 := new_cell hb7 (j := 4) rfl
  have b2_5_7 := new_cell hb7 (j := 5) rfl
  have b2_6_7 := new_cell hb7 (j := 6) rfl
  have b2_7_7 := new_cell hb7 (j := 7) rfl
  have z2_7 : w6.heap.size < w7.heap.size := (by omega)
  have o_W_7 := o_W_6.step hb7
  clear o_W_6
  have o_G_7 := o_G_6.step hb7
  clear o_G_6
  have o_H_7 := oc6.step hb7
  go_wp2_with fail
  refine (heldBase_ct _ _ _ _ o_G_7.rd' (by decide) (by omega)).mono ?_
  rintro e w8 ⟨rfl, hb8⟩
  have hB8 := below_step0 hB7 hb8 hB7.size
  have sz8 := hb8.size
  have b0_0_8 := cell_up hb8 (by omega) b0_0_7
  clear b0_0_7
  have b0_1_8 := cell_up hb8 (by omega) b0_1_7
  clear b0_1_7
  have b0_2_8 := cell_up hb8 (by omega) b0_2_7
  clear b0_2_7
  have b0_3_8 := cell_up hb8 (by omega) b0_3_7
  clear b0_3_7
  have b0_4_8 := cell_up hb8 (by omega) b0_4_7
  clear b0_4_7
  have b0_5_8 := cell_up hb8 (by omega) b0_5_7
  clear b0_5_7
  have b0_6_8 := cell_up hb8 (by omega) b0_6_7
  clear b0_6_7
  have b0_7_8 := cell_up hb8 (by omega) b0_7_7
  clear b0_7_7
  have z0_8 : w1.heap.size < w8.heap.size := (by omega)
  clear z0_7
  have b1_0_8 := cell_up hb8 (by omega) b1_0_7
  clear b1_0_7
  have b1_1_8 := cell_up hb8 (by omega) b1_1_7
  clear b1_1_7
  have b1_2_8 := cell_up hb8 (by omega) b1_2_7
  clear b1_2_7
  have b1_3_8 := cell_up hb8 (by omega) b1_3_7
  clear b1_3_7
  have b1_4_8 := cell_up hb8 (by omega) b1_4_7
  clear b1_4_7
  have b1_5_8 := cell_up hb8 (by omega) b1_5_7
  clear b1_5_7
  have b1_6_8 := cell_up hb8 (by omega) b1_6_7
  clear b1_6_7
  have b1_7_8 := cell_up hb8 (by omega) b1_7_7
  clear b1_7_7
  have z1_8 : w2.heap.size < w8.heap.size := (by omega)
  clear z1_7
  have b2_0_8 := cell_up hb8 (by omega) b2_0_7
  clear b2_0_7
  have b2_1_8 := cell_up hb8 (by omega) b2_1_7
  clear b2_1_7
  have b2_2_8 := cell_up hb8 (by omega) b2_2_7
  clear b2_2_7
  have b2_3_8 := cell_up hb8 (by omega) b2_3_7
  clear b2_3_7
  have b2_4_8 := cell_up hb8 (by omega) b2_4_7
  clear b2_4_7
  have b2_5_8 := cell_up hb8 (by omega) b2_5_7
  clear b2_5_7
  have b2_6_8 := cell_up hb8 (by omega) b2_6_7
  clear b2_6_7
  have b2_7_8 := cell_up hb8 (by omega) b2_7_7
  clear b2_7_7
  have z2_8 : w6.heap.size < w8.heap.size := (by omega)
  clear z2_7
  have o_W_8 := o_W_7.step0 hb8
  clear o_W_7
  have o_G_8 := o_G_7.step0 hb8
  clear o_G_7
  have o_H_8 := o_H_7.step0 hb8
  clear o_H_7
  go_wp2_with fail
  go_ret
  exact ⟨rfl, hB8⟩
end Go.Proofs.Ytodbkbolpcbooaa
