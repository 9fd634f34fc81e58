/-
  The laws on hazard pointers, walked.
-/
import Derived.Test.YtobcdcfbhfoheaaZ
import Derived.Test.YtobcdcfbhfoheaaJ
namespace Go.Proofs.Ytobcdcfbhfoheaa
open Go.RowKit

set_option maxRecDepth 100000 in
set_option maxHeartbeats 4000000 in
theorem FnExactHeldBy_law (w : World) (v : Value) (z : List Int) (h0 : Int) (h : RdL FI w w.heap.size v z) :
    Calls Try.prog 3 #[v, .int .i64 h0] w fun e w' => e = .returned (.bool true) ∧ Below w.heap.size w w' := by
  obtain ⟨A, c, hv, q1, q2, _⟩ := id h
  have hlt0 : z.length ≤ 9223372036854775807 := by unfold maxLen at q2; omega
  subst hv
  clear q1 q2
  by_cases hs : z.length ≤ 1048576
  case neg =>
    go_enter Try.func3, Try.ntmps3
    go_wp2
    go_ret
    exact ⟨rfl, Below.refl _ _⟩
  have hl1 : (heldL z h0).length ≤ 1048576 := Nat.le_trans (by unfold heldL; split; exact heldTo_len z h0 z.length; exact Nat.zero_le _) hs
  go_enter Try.func3, Try.ntmps3
  have hB0 : Below w.heap.size w w := Below.refl _ _
  go_wp2_with fail
  refine (toIntS_ct _ _ z (rd_up h hB0) (by omega)).mono ?_
  rintro e w1 ⟨rfl, oc1, hb1⟩
  have hB1 := hB0.trans (hb1.mono hB0.size)
  have fc1 : ∀ g ∈ foot1 (.slice (some ⟨w.heap.size, 0, none⟩) z.length z.length), w.heap.size ≤ g := by simp [foot1, Value.ownBlock]
  go_wp2_with fail
  refine (HeldBy_spec _ _ z _ oc1.rd' (by omega)).mono ?_
  rintro e w2 ⟨v2, rfl, oc2, fc2, hb2⟩
  have hB2 := hB1.trans (hb2.mono hB1.size)
  have o_t1_2 := oc1.keep (fun g hg => hb2.block g (foot_lt oc1 g (mem_foot1.2 hg)))
  go_wp2_with fail
  refine (toIntS_ct _ _ z (rd_up h hB2) (by omega)).mono ?_
  rintro e w3 ⟨rfl, oc3, hb3⟩
  have hB3 := hB2.trans (hb3.mono hB2.size)
  have o_t1_3 := o_t1_2.keep (fun g hg => hb3.block g (foot_lt o_t1_2 g (mem_foot1.2 hg)))
  clear o_t1_2
  have o_W_3 := oc2.keep (fun g hg => hb3.block g (foot_lt oc2 g (mem_foot1.2 hg)))
  have fc3 : ∀ g ∈ foot1 (.slice (some ⟨w2.heap.size, 0, none⟩) z.length z.length), w2.heap.size ≤ g := by simp [foot1, Value.ownBlock]
  go_wp2_with fail
  refine (HeldBy_impl _ _ z _ oc3.rd' (by omega)).mono ?_
  rintro e w4 ⟨v4, rfl, oc4, fc4, hb4⟩
  have hB4 := hB3.trans (hb4.mono hB3.size)
  have o_t1_4 := o_t1_3.keep (fun g hg => hb4.block g (foot_lt o_t1_3 g (mem_foot1.2 hg)))
  clear o_t1_3
  have o_W_4 := o_W_3.keep (fun g hg => hb4.block g (foot_lt o_W_3 g (mem_foot1.2 hg)))
  clear o_W_3
  have o_x0_4 := oc3.keep (fun g hg => hb4.block g (foot_lt oc3 g (mem_foot1.2 hg)))
  go_wp2_with fail
  refine (eqIntS_ct _ _ _ _ oc4.rd' o_W_4.rd' (by omega)).mono ?_
  rintro e w5 ⟨rfl, hb5⟩
  have hB5 := hB4.trans (hb5.mono hB4.size)
  have o_t1_5 := o_t1_4.keep (fun g hg => hb5.block g (foot_lt o_t1_4 g (mem_foot1.2 hg)))
  clear o_t1_4
  have o_W_5 := o_W_4.keep (fun g hg => hb5.block g (foot_lt o_W_4 g (mem_foot1.2 hg)))
  clear o_W_4
  have o_x0_5 := o_x0_4.keep (fun g hg => hb5.block g (foot_lt o_x0_4 g (mem_foot1.2 hg)))
  clear o_x0_4
  have o_G_5 := oc4.keep (fun g hg => hb5.block g (foot_lt oc4 g (mem_foot1.2 hg)))
  go_wp2_with fail
  refine (toIntS_ct _ _ z (rd_up h hB5) (by omega)).mono ?_
  rintro e w6 ⟨rfl, oc6, hb6⟩
  have hB6 := hB5.trans (hb6.mono hB5.size)
  have o_t1_6 := o_t1_5.keep (fun g hg => hb6.block g (foot_lt o_t1_5 g (mem_foot1.2 hg)))
  clear o_t1_5
  have o_W_6 := o_W_5.keep (fun g hg => hb6.block g (foot_lt o_W_5 g (mem_foot1.2 hg)))
  clear o_W_5
  have o_x0_6 := o_x0_5.keep (fun g hg => hb6.block g (foot_lt o_x0_5 g (mem_foot1.2 hg)))
  clear o_x0_5
  have o_G_6 := o_G_5.keep (fun g hg => hb6.block g (foot_lt o_G_5 g (mem_foot1.2 hg)))
  clear o_G_5
  have fc6 : ∀ g ∈ foot1 (.slice (some ⟨w5.heap.size, 0, none⟩) z.length z.length), w5.heap.size ≤ g := by simp [foot1, Value.ownBlock]
  go_wp2_with fail
  refine (eqIntS_ct _ _ _ _ o_x0_6.rd' oc6.rd' (by omega)).mono ?_
  rintro e w7 ⟨rfl, hb7⟩
  have hB7 := hB6.trans (hb7.mono hB6.size)
  have o_t1_7 := o_t1_6.keep (fun g hg => hb7.block g (foot_lt o_t1_6 g (mem_foot1.2 hg)))
  clear o_t1_6
  have o_W_7 := o_W_6.keep (fun g hg => hb7.block g (foot_lt o_W_6 g (mem_foot1.2 hg)))
  clear o_W_6
  have o_x0_7 := o_x0_6.keep (fun g hg => hb7.block g (foot_lt o_x0_6 g (mem_foot1.2 hg)))
  clear o_x0_6
  have o_G_7 := o_G_6.keep (fun g hg => hb7.block g (foot_lt o_G_6 g (mem_foot1.2 hg)))
  clear o_G_6
  have o_t2_7 := oc6.keep (fun g hg => hb7.block g (foot_lt oc6 g (mem_foot1.2 hg)))
  go_wp2_with fail
  refine (markIntS_ct _ _ _ _ o_x0_7 (by decide) (by omega)).mono ?_
  rintro e w8 ⟨rfl, om8, hx8, _⟩
  have hc8 := Chg.of_grown hx8
  have hB8 := hB7.trans (hc8.below hB7.size (fun g hm => by have q := fc3 g hm; have := hb1.size; have := hb2.size; have := hb3.size; have := hb4.size; have := hb5.size; have := hb6.size; have := hb7.size; omega))
  have o_t1_8 := o_t1_7.chg hc8 (fun g hg hm => by have p := foot_lt oc1 g hg; have q := fc3 g hm; have := hb1.size; have := hb2.size; have := hb3.size; have := hb4.size; have := hb5.size; have := hb6.size; have := hb7.size; have := hc8.size; omega)
  clear o_t1_7
  have o_W_8 := o_W_7.chg hc8 (fun g hg hm => by have p := foot_lt oc2 g hg; have q := fc3 g hm; have := hb1.size; have := hb2.size; have := hb3.size; have := hb4.size; have := hb5.size; have := hb6.size; have := hb7.size; have := hc8.size; omega)
  clear o_W_7
  have o_G_8 := o_G_7.chg hc8 (fun g hg hm => by have p := foot_lt oc3 g hm; have q := fc4 g hg; have := hb1.size; have := hb2.size; have := hb3.size; have := hb4.size; have := hb5.size; have := hb6.size; have := hb7.size; have := hc8.size; omega)
  clear o_G_7
  have o_t2_8 := o_t2_7.chg hc8 (fun g hg hm => by have p := foot_lt oc3 g hm; have q := fc6 g hg; have := hb1.size; have := hb2.size; have := hb3.size; have := hb4.size; have := hb5.size; have := hb6.size; have := hb7.size; have := hc8.size; omega)
  clear o_t2_7
  clear o_x0_7
  go_wp2_with fail
  refine (eqIntS_ct _ _ _ _ o_G_8.rd' o_W_8.rd' (by omega)).mono ?_
  rintro e w9 ⟨rfl, hb9⟩
  have hB9 := hB8.trans (hb9.mono hB8.size)
  have o_t1_9 := o_t1_8.keep (fun g hg => hb9.block g (foot_lt o_t1_8 g (mem_foot1.2 hg)))
  clear o_t1_8
  have o_W_9 := o_W_8.keep (fun g hg => hb9.block g (foot_lt o_W_8 g (mem_foot1.2 hg)))
  clear o_W_8
  have o_x0_9 := om8.keep (fun g hg => hb9.block g (foot_lt om8 g (mem_foot1.2 hg)))
  clear om8
  have o_G_9 := o_G_8.keep (fun g hg => hb9.block g (foot_lt o_G_8 g (mem_foot1.2 hg)))
  clear o_G_8
  have o_t2_9 := o_t2_8.keep (fun g hg => hb9.block g (foot_lt o_t2_8 g (mem_foot1.2 hg)))
  clear o_t2_8
  go_wp2_with fail
  refine (markIntS_ct _ _ _ _ o_G_9 (by decide) (by omega)).mono ?_
  rintro e w10 ⟨rfl, om10, hx10, _⟩
  have hc10 := Chg.of_grown hx10
  have hB10 := hB9.trans (hc10.below hB9.size (fun g hm => by have q := fc4 g hm; have := hb1.size; have := hb2.size; have := hb3.size; have := hb4.size; have := hb5.size; have := hb6.size; have := hb7.size; have := hc8.size; have := hb9.size; omega))
  have o_t1_10 := o_t1_9.chg hc10 (fun g hg hm => by have p := foot_lt oc1 g hg; have q := fc4 g hm; have := hb1.size; have := hb2.size; have := hb3.size; have := hb4.size; have := hb5.size; have := hb6.size; have := hb7.size; have := hc8.size; have := hb9.size; have := hc10.size; omega)
  clear o_t1_9
  have o_W_10 := o_W_9.chg hc10 (fun g hg hm => by have p := foot_lt oc2 g hg; have q := fc4 g hm; have := hb1.size; have := hb2.size; have := hb3.size; have := hb4.size; have := hb5.size; have := hb6.size; have := hb7.size; have := hc8.size; have := hb9.size; have := hc10.size; omega)
  clear o_W_9
  have o_x0_10 := o_x0_9.chg hc10 (fun g hg hm => by have p := foot_lt oc3 g hg; have q := fc4 g hm; have := hb1.size; have := hb2.size; have := hb3.size; have := hb4.size; have := hb5.size; have := hb6.size; have := hb7.size; have := hc8.size; have := hb9.size; have := hc10.size; omega)
  clear o_x0_9
  have o_t2_10 := o_t2_9.chg hc10 (fun g hg hm => by have p := foot_lt oc4 g hm; have q := fc6 g hg; have := hb1.size; have := hb2.size; have := hb3.size; have := hb4.size; have := hb5.size; have := hb6.size; have := hb7.size; have := hc8.size; have := hb9.size; have := hc10.size; omega)
  clear o_t2_9
  clear o_G_9
  go_wp2_with fail
  refine (heldIntS_ct _ _ _ _ om10.rd' (by decide) (by omega)).mono ?_
  rintro e w11 ⟨rfl, hb11⟩
  have hB11 := hB10.trans (hb11.mono hB10.size)
  have o_t1_11 := o_t1_10.keep (fun g hg => hb11.block g (foot_lt o_t1_10 g (mem_foot1.2 hg)))
  clear o_t1_10
  have o_W_11 := o_W_10.keep (fun g hg => hb11.block g (foot_lt o_W_10 g (mem_foot1.2 hg)))
  clear o_W_10
  have o_x0_11 := o_x0_10.keep (fun g hg => hb11.block g (foot_lt o_x0_10 g (mem_foot1.2 hg)))
  clear o_x0_10
  have o_G_11 := om10.keep (fun g hg => hb11.block g (foot_lt om10 g (mem_foot1.2 hg)))
  clear om10
  have o_t2_11 := o_t2_10.keep (fun g hg => hb11.block g (foot_lt o_t2_10 g (mem_foot1.2 hg)))
  clear o_t2_10
  go_wp2_with fail
  refine (toIntS_ct _ _ z (rd_up h hB11) (by omega)).mono ?_
  rintro e w12 ⟨rfl, oc12, hb12⟩
  have hB12 := hB11.trans (hb12.mono hB11.size)
  have o_t1_12 := o_t1_11.keep (fun g hg => hb12.block g (foot_lt o_t1_11 g (mem_foot1.2 hg)))
  clear o_t1_11
  have o_W_12 := o_W_11.keep (fun g hg => hb12.block g (foot_lt o_W_11 g (mem_foot1.2 hg)))
  clear o_W_11
  have o_x0_12 := o_x0_11.keep (fun g hg => hb12.block g (foot_lt o_x0_11 g (mem_foot1.2 hg)))
  clear o_x0_11
  have o_G_12 := o_G_11.keep (fun g hg => hb12.block g (foot_lt o_G_11 g (mem_foot1.2 hg)))
  clear o_G_11
  have o_t2_12 := o_t2_11.keep (fun g hg => hb12.block g (foot_lt o_t2_11 g (mem_foot1.2 hg)))
  clear o_t2_11
  have fc12 : ∀ g ∈ foot1 (.slice (some ⟨w11.heap.size, 0, none⟩) z.length z.length), w11.heap.size ≤ g := by simp [foot1, Value.ownBlock]
  go_wp2_with fail
  refine (HeldBy_impl _ _ z _ oc12.rd' (by omega)).mono ?_
  rintro e w13 ⟨v13, rfl, oc13, fc13, hb13⟩
  have hB13 := hB12.trans (hb13.mono hB12.size)
  have o_t1_13 := o_t1_12.keep (fun g hg => hb13.block g (foot_lt o_t1_12 g (mem_foot1.2 hg)))
  clear o_t1_12
  have o_W_13 := o_W_12.keep (fun g hg => hb13.block g (foot_lt o_W_12 g (mem_foot1.2 hg)))
  clear o_W_12
  have o_x0_13 := o_x0_12.keep (fun g hg => hb13.block g (foot_lt o_x0_12 g (mem_foot1.2 hg)))
  clear o_x0_12
  have o_G_13 := o_G_12.keep (fun g hg => hb13.block g (foot_lt o_G_12 g (mem_foot1.2 hg)))
  clear o_G_12
  have o_t2_13 := o_t2_12.keep (fun g hg => hb13.block g (foot_lt o_t2_12 g (mem_foot1.2 hg)))
  clear o_t2_12
  have o_t3_13 := oc12.keep (fun g hg => hb13.block g (foot_lt oc12 g (mem_foot1.2 hg)))
  go_wp2_with fail
  refine (eqIntS_ct _ _ _ _ oc13.rd' o_W_13.rd' (by omega)).mono ?_
  rintro e w14 ⟨rfl, hb14⟩
  have hB14 := hB13.trans (hb14.mono hB13.size)
  have o_t1_14 := o_t1_13.keep (fun g hg => hb14.block g (foot_lt o_t1_13 g (mem_foot1.2 hg)))
  clear o_t1_13
  have o_W_14 := o_W_13.keep (fun g hg => hb14.block g (foot_lt o_W_13 g (mem_foot1.2 hg)))
  clear o_W_13
  have o_x0_14 := o_x0_13.keep (fun g hg => hb14.block g (foot_lt o_x0_13 g (mem_foot1.2 hg)))
  clear o_x0_13
  have o_G_14 := o_G_13.keep (fun g hg => hb14.block g (foot_lt o_G_13 g (mem_foot1.2 hg)))
  clear o_G_13
  have o_t2_14 := o_t2_13.keep (fun g hg => hb14.block g (foot_lt o_t2_13 g (mem_foot1.2 hg)))
  clear o_t2_13
  have o_t3_14 := o_t3_13.keep (fun g hg => hb14.block g (foot_lt o_t3_13 g (mem_foot1.2 hg)))
  clear o_t3_13
  have o_H_14 := oc13.keep (fun g hg => hb14.block g (foot_lt oc13 g (mem_foot1.2 hg)))
  go_wp2_with fail
  refine (heldIntS_ct _ _ _ _ o_G_14.rd' (by decide) (by omega)).mono ?_
  rintro e w15 ⟨rfl, hb15⟩
  have hB15 := hB14.trans (hb15.mono hB14.size)
  have o_t1_15 := o_t1_14.keep (fun g hg => hb15.block g (foot_lt o_t1_14 g (mem_foot1.2 hg)))
  clear o_t1_14
  have o_W_15 := o_W_14.keep (fun g hg => hb15.block g (foot_lt o_W_14 g (mem_foot1.2 hg)))
  clear o_W_14
  have o_x0_15 := o_x0_14.keep (fun g hg => hb15.block g (foot_lt o_x0_14 g (mem_foot1.2 hg)))
  clear o_x0_14
  have o_G_15 := o_G_14.keep (fun g hg => hb15.block g (foot_lt o_G_14 g (mem_foot1.2 hg)))
  clear o_G_14
  have o_t2_15 := o_t2_14.keep (fun g hg => hb15.block g (foot_lt o_t2_14 g (mem_foot1.2 hg)))
  clear o_t2_14
  have o_t3_15 := o_t3_14.keep (fun g hg => hb15.block g (foot_lt o_t3_14 g (mem_foot1.2 hg)))
  clear o_t3_14
  have o_H_15 := o_H_14.keep (fun g hg => hb15.block g (foot_lt o_H_14 g (mem_foot1.2 hg)))
  clear o_H_14
  go_wp2_with fail
  go_ret
  exact ⟨rfl, hB15⟩

set_option maxRecDepth 100000 in
set_option maxHeartbeats 4000000 in
theorem FnExactPublish_law (w : World) (v : Value) (z : List Int) (wk : Int) (h0 : Int) (h : RdL FI w w.heap.size v z) :
    Calls Try.prog 5 #[v, .int .i64 wk, .int .i64 h0] w fun e w' => e = .returned (.bool true) ∧ Below w.heap.size w w' := by
  obtain ⟨A, c, hv, q1, q2, _⟩ := id h
  have hlt0 : z.length ≤ 9223372036854775807 := by unfold maxLen at q2; omega
  subst hv
  clear q1 q2
  by_cases hs : z.length ≤ 1048576
  case neg =>
    go_enter Try.func5, Try.ntmps5
    go_wp2
    go_ret
    exact ⟨rfl, Below.refl _ _⟩
  have hl1 : (publishL z wk h0).1.length ≤ 1048576 := by unfold publishL; split <;> simp [hs]
  go_enter Try.func5, Try.ntmps5
  have hB0 : Below w.heap.size w w := Below.refl _ _
  go_wp2_with fail
  refine (toIntS_ct _ _ z (rd_up h hB0) (by omega)).mono ?_
  rintro e w1 ⟨rfl, oc1, hb1⟩
  have hB1 := hB0.trans (hb1.mono hB0.size)
  have fc1 : ∀ g ∈ foot1 (.slice (some ⟨w.heap.size, 0, none⟩) z.length z.length), w.heap.size ≤ g := by simp [foot1, Value.ownBlock]
  go_wp2_with fail
  refine (Publish_spec _ _ z _ _ oc1.rd' (by omega)).mono ?_
  rintro e w2 ⟨v2, rfl, oc2, fc2, hb2⟩
  have hB2 := hB1.trans (hb2.mono hB1.size)
  have o_t1_2 := oc1.keep (fun g hg => hb2.block g (foot_lt oc1 g (mem_foot1.2 hg)))
  go_wp2_with fail
  refine (toIntS_ct _ _ z (rd_up h hB2) (by omega)).mono ?_
  rintro e w3 ⟨rfl, oc3, hb3⟩
  have hB3 := hB2.trans (hb3.mono hB2.size)
  have o_t1_3 := o_t1_2.keep (fun g hg => hb3.block g (foot_lt o_t1_2 g (mem_foot1.2 hg)))
  clear o_t1_2
  have o_W_3 := oc2.keep (fun g hg => hb3.block g (foot_lt oc2 g (mem_foot1.2 hg)))
  have fc3 : ∀ g ∈ foot1 (.slice (some ⟨w2.heap.size, 0, none⟩) z.length z.length), w2.heap.size ≤ g := by simp [foot1, Value.ownBlock]
  go_wp2_with fail
  refine (Publish_impl _ _ z _ _ oc3.rd' (by omega)).mono ?_
  rintro e w4 ⟨v4, rfl, oc4, fc4, hb4⟩
  have hB4 := hB3.trans (hb4.mono hB3.size)
  have o_t1_4 := o_t1_3.keep (fun g hg => hb4.block g (foot_lt o_t1_3 g (mem_foot1.2 hg)))
  clear o_t1_3
  have o_W_4 := o_W_3.keep (fun g hg => hb4.block g (foot_lt o_W_3 g (mem_foot1.2 hg)))
  clear o_W_3
  have o_x0_4 := oc3.keep (fun g hg => hb4.block g (foot_lt oc3 g (mem_foot1.2 hg)))
  go_wp2_with fail
  refine (eqIntS_ct _ _ _ _ oc4.rd' o_W_4.rd' (by omega)).mono ?_
  rintro e w5 ⟨rfl, hb5⟩
  have hB5 := hB4.trans (hb5.mono hB4.size)
  have o_t1_5 := o_t1_4.keep (fun g hg => hb5.block g (foot_lt o_t1_4 g (mem_foot1.2 hg)))
  clear o_t1_4
  have o_W_5 := o_W_4.keep (fun g hg => hb5.block g (foot_lt o_W_4 g (mem_foot1.2 hg)))
  clear o_W_4
  have o_x0_5 := o_x0_4.keep (fun g hg => hb5.block g (foot_lt o_x0_4 g (mem_foot1.2 hg)))
  clear o_x0_4
  have o_G_5 := oc4.keep (fun g hg => hb5.block g (foot_lt oc4 g (mem_foot1.2 hg)))
  go_wp2_with fail
  refine (toIntS_ct _ _ z (rd_up h hB5) (by omega)).mono ?_
  rintro e w6 ⟨rfl, oc6, hb6⟩
  have hB6 := hB5.trans (hb6.mono hB5.size)
  have o_t1_6 := o_t1_5.keep (fun g hg => hb6.block g (foot_lt o_t1_5 g (mem_foot1.2 hg)))
  clear o_t1_5
  have o_W_6 := o_W_5.keep (fun g hg => hb6.block g (foot_lt o_W_5 g (mem_foot1.2 hg)))
  clear o_W_5
  have o_x0_6 := o_x0_5.keep (fun g hg => hb6.block g (foot_lt o_x0_5 g (mem_foot1.2 hg)))
  clear o_x0_5
  have o_G_6 := o_G_5.keep (fun g hg => hb6.block g (foot_lt o_G_5 g (mem_foot1.2 hg)))
  clear o_G_5
  have fc6 : ∀ g ∈ foot1 (.slice (some ⟨w5.heap.size, 0, none⟩) z.length z.length), w5.heap.size ≤ g := by simp [foot1, Value.ownBlock]
  go_wp2_with fail
  refine (eqIntS_ct _ _ _ _ o_x0_6.rd' oc6.rd' (by omega)).mono ?_
  rintro e w7 ⟨rfl, hb7⟩
  have hB7 := hB6.trans (hb7.mono hB6.size)
  have o_t1_7 := o_t1_6.keep (fun g hg => hb7.block g (foot_lt o_t1_6 g (mem_foot1.2 hg)))
  clear o_t1_6
  have o_W_7 := o_W_6.keep (fun g hg => hb7.block g (foot_lt o_W_6 g (mem_foot1.2 hg)))
  clear o_W_6
  have o_x0_7 := o_x0_6.keep (fun g hg => hb7.block g (foot_lt o_x0_6 g (mem_foot1.2 hg)))
  clear o_x0_6
  have o_G_7 := o_G_6.keep (fun g hg => hb7.block g (foot_lt o_G_6 g (mem_foot1.2 hg)))
  clear o_G_6
  have o_t2_7 := oc6.keep (fun g hg => hb7.block g (foot_lt oc6 g (mem_foot1.2 hg)))
  go_wp2_with fail
  refine (markIntS_ct _ _ _ _ o_x0_7 (by decide) (by omega)).mono ?_
  rintro e w8 ⟨rfl, om8, hx8, _⟩
  have hc8 := Chg.of_grown hx8
  have hB8 := hB7.trans (hc8.below hB7.size (fun g hm => by have q := fc3 g hm; have := hb1.size; have := hb2.size; have := hb3.size; have := hb4.size; have := hb5.size; have := hb6.size; have := hb7.size; omega))
  have o_t1_8 := o_t1_7.chg hc8 (fun g hg hm => by have p := foot_lt oc1 g hg; have q := fc3 g hm; have := hb1.size; have := hb2.size; have := hb3.size; have := hb4.size; have := hb5.size; have := hb6.size; have := hb7.size; have := hc8.size; omega)
  clear o_t1_7
  have o_W_8 := o_W_7.chg hc8 (fun g hg hm => by have p := foot_lt oc2 g hg; have q := fc3 g hm; have := hb1.size; have := hb2.size; have := hb3.size; have := hb4.size; have := hb5.size; have := hb6.size; have := hb7.size; have := hc8.size; omega)
  clear o_W_7
  have o_G_8 := o_G_7.chg hc8 (fun g hg hm => by have p := foot_lt oc3 g hm; have q := fc4 g hg; have := hb1.size; have := hb2.size; have := hb3.size; have := hb4.size; have := hb5.size; have := hb6.size; have := hb7.size; have := hc8.size; omega)
  clear o_G_7
  have o_t2_8 := o_t2_7.chg hc8 (fun g hg hm => by have p := foot_lt oc3 g hm; have q := fc6 g hg; have := hb1.size; have := hb2.size; have := hb3.size; have := hb4.size; have := hb5.size; have := hb6.size; have := hb7.size; have := hc8.size; omega)
  clear o_t2_7
  clear o_x0_7
  go_wp2_with fail
  refine (eqIntS_ct _ _ _ _ o_G_8.rd' o_W_8.rd' (by omega)).mono ?_
  rintro e w9 ⟨rfl, hb9⟩
  have hB9 := hB8.trans (hb9.mono hB8.size)
  have o_t1_9 := o_t1_8.keep (fun g hg => hb9.block g (foot_lt o_t1_8 g (mem_foot1.2 hg)))
  clear o_t1_8
  have o_W_9 := o_W_8.keep (fun g hg => hb9.block g (foot_lt o_W_8 g (mem_foot1.2 hg)))
  clear o_W_8
  have o_x0_9 := om8.keep (fun g hg => hb9.block g (foot_lt om8 g (mem_foot1.2 hg)))
  clear om8
  have o_G_9 := o_G_8.keep (fun g hg => hb9.block g (foot_lt o_G_8 g (mem_foot1.2 hg)))
  clear o_G_8
  have o_t2_9 := o_t2_8.keep (fun g hg => hb9.block g (foot_lt o_t2_8 g (mem_foot1.2 hg)))
  clear o_t2_8
  go_wp2_with fail
  refine (markIntS_ct _ _ _ _ o_G_9 (by decide) (by omega)).mono ?_
  rintro e w10 ⟨rfl, om10, hx10, _⟩
  have hc10 := Chg.of_grown hx10
  have hB10 := hB9.trans (hc10.below hB9.size (fun g hm => by have q := fc4 g hm; have := hb1.size; have := hb2.size; have := hb3.size; have := hb4.size; have := hb5.size; have := hb6.size; have := hb7.size; have := hc8.size; have := hb9.size; omega))
  have o_t1_10 := o_t1_9.chg hc10 (fun g hg hm => by have p := foot_lt oc1 g hg; have q := fc4 g hm; have := hb1.size; have := hb2.size; have := hb3.size; have := hb4.size; have := hb5.size; have := hb6.size; have := hb7.size; have := hc8.size; have := hb9.size; have := hc10.size; omega)
  clear o_t1_9
  have o_W_10 := o_W_9.chg hc10 (fun g hg hm => by have p := foot_lt oc2 g hg; have q := fc4 g hm; have := hb1.size; have := hb2.size; have := hb3.size; have := hb4.size; have := hb5.size; have := hb6.size; have := hb7.size; have := hc8.size; have := hb9.size; have := hc10.size; omega)
  clear o_W_9
  have o_x0_10 := o_x0_9.chg hc10 (fun g hg hm => by have p := foot_lt oc3 g hg; have q := fc4 g hm; have := hb1.size; have := hb2.size; have := hb3.size; have := hb4.size; have := hb5.size; have := hb6.size; have := hb7.size; have := hc8.size; have := hb9.size; have := hc10.size; omega)
  clear o_x0_9
  have o_t2_10 := o_t2_9.chg hc10 (fun g hg hm => by have p := foot_lt oc4 g hm; have q := fc6 g hg; have := hb1.size; have := hb2.size; have := hb3.size; have := hb4.size; have := hb5.size; have := hb6.size; have := hb7.size; have := hc8.size; have := hb9.size; have := hc10.size; omega)
  clear o_t2_9
  clear o_G_9
  go_wp2_with fail
  refine (heldIntS_ct _ _ _ _ om10.rd' (by decide) (by omega)).mono ?_
  rintro e w11 ⟨rfl, hb11⟩
  have hB11 := hB10.trans (hb11.mono hB10.size)
  have o_t1_11 := o_t1_10.keep (fun g hg => hb11.block g (foot_lt o_t1_10 g (mem_foot1.2 hg)))
  clear o_t1_10
  have o_W_11 := o_W_10.keep (fun g hg => hb11.block g (foot_lt o_W_10 g (mem_foot1.2 hg)))
  clear o_W_10
  have o_x0_11 := o_x0_10.keep (fun g hg => hb11.block g (foot_lt o_x0_10 g (mem_foot1.2 hg)))
  clear o_x0_10
  have o_G_11 := om10.keep (fun g hg => hb11.block g (foot_lt om10 g (mem_foot1.2 hg)))
  clear om10
  have o_t2_11 := o_t2_10.keep (fun g hg => hb11.block g (foot_lt o_t2_10 g (mem_foot1.2 hg)))
  clear o_t2_10
  go_wp2_with fail
  refine (toIntS_ct _ _ z (rd_up h hB11) (by omega)).mono ?_
  rintro e w12 ⟨rfl, oc12, hb12⟩
  have hB12 := hB11.trans (hb12.mono hB11.size)
  have o_t1_12 := o_t1_11.keep (fun g hg => hb12.block g (foot_lt o_t1_11 g (mem_foot1.2 hg)))
  clear o_t1_11
  have o_W_12 := o_W_11.keep (fun g hg => hb12.block g (foot_lt o_W_11 g (mem_foot1.2 hg)))
  clear o_W_11
  have o_x0_12 := o_x0_11.keep (fun g hg => hb12.block g (foot_lt o_x0_11 g (mem_foot1.2 hg)))
  clear o_x0_11
  have o_G_12 := o_G_11.keep (fun g hg => hb12.block g (foot_lt o_G_11 g (mem_foot1.2 hg)))
  clear o_G_11
  have o_t2_12 := o_t2_11.keep (fun g hg => hb12.block g (foot_lt o_t2_11 g (mem_foot1.2 hg)))
  clear o_t2_11
  have fc12 : ∀ g ∈ foot1 (.slice (some ⟨w11.heap.size, 0, none⟩) z.length z.length), w11.heap.size ≤ g := by simp [foot1, Value.ownBlock]
  go_wp2_with fail
  refine (Publish_impl _ _ z _ _ oc12.rd' (by omega)).mono ?_
  rintro e w13 ⟨v13, rfl, oc13, fc13, hb13⟩
  have hB13 := hB12.trans (hb13.mono hB12.size)
  have o_t1_13 := o_t1_12.keep (fun g hg => hb13.block g (foot_lt o_t1_12 g (mem_foot1.2 hg)))
  clear o_t1_12
  have o_W_13 := o_W_12.keep (fun g hg => hb13.block g (foot_lt o_W_12 g (mem_foot1.2 hg)))
  clear o_W_12
  have o_x0_13 := o_x0_12.keep (fun g hg => hb13.block g (foot_lt o_x0_12 g (mem_foot1.2 hg)))
  clear o_x0_12
  have o_G_13 := o_G_12.keep (fun g hg => hb13.block g (foot_lt o_G_12 g (mem_foot1.2 hg)))
  clear o_G_12
  have o_t2_13 := o_t2_12.keep (fun g hg => hb13.block g (foot_lt o_t2_12 g (mem_foot1.2 hg)))
  clear o_t2_12
  have o_t3_13 := oc12.keep (fun g hg => hb13.block g (foot_lt oc12 g (mem_foot1.2 hg)))
  go_wp2_with fail
  refine (eqIntS_ct _ _ _ _ oc13.rd' o_W_13.rd' (by omega)).mono ?_
  rintro e w14 ⟨rfl, hb14⟩
  have hB14 := hB13.trans (hb14.mono hB13.size)
  have o_t1_14 := o_t1_13.keep (fun g hg => hb14.block g (foot_lt o_t1_13 g (mem_foot1.2 hg)))
  clear o_t1_13
  have o_W_14 := o_W_13.keep (fun g hg => hb14.block g (foot_lt o_W_13 g (mem_foot1.2 hg)))
  clear o_W_13
  have o_x0_14 := o_x0_13.keep (fun g hg => hb14.block g (foot_lt o_x0_13 g (mem_foot1.2 hg)))
  clear o_x0_13
  have o_G_14 := o_G_13.keep (fun g hg => hb14.block g (foot_lt o_G_13 g (mem_foot1.2 hg)))
  clear o_G_13
  have o_t2_14 := o_t2_13.keep (fun g hg => hb14.block g (foot_lt o_t2_13 g (mem_foot1.2 hg)))
  clear o_t2_13
  have o_t3_14 := o_t3_13.keep (fun g hg => hb14.block g (foot_lt o_t3_13 g (mem_foot1.2 hg)))
  clear o_t3_13
  have o_H_14 := oc13.keep (fun g hg => hb14.block g (foot_lt oc13 g (mem_foot1.2 hg)))
  go_wp2_with fail
  refine (heldIntS_ct _ _ _ _ o_G_14.rd' (by decide) (by omega)).mono ?_
  rintro e w15 ⟨rfl, hb15⟩
  have hB15 := hB14.trans (hb15.mono hB14.size)
  have o_t1_15 := o_t1_14.keep (fun g hg => hb15.block g (foot_lt o_t1_14 g (mem_foot1.2 hg)))
  clear o_t1_14
  have o_W_15 := o_W_14.keep (fun g hg => hb15.block g (foot_lt o_W_14 g (mem_foot1.2 hg)))
  clear o_W_14
  have o_x0_15 := o_x0_14.keep (fun g hg => hb15.block g (foot_lt o_x0_14 g (mem_foot1.2 hg)))
  clear o_x0_14
  have o_G_15 := o_G_14.keep (fun g hg => hb15.block g (foot_lt o_G_14 g (mem_foot1.2 hg)))
  clear o_G_14
  have o_t2_15 := o_t2_14.keep (fun g hg => hb15.block g (foot_lt o_t2_14 g (mem_foot1.2 hg)))
  clear o_t2_14
  have o_t3_15 := o_t3_14.keep (fun g hg => hb15.block g (foot_lt o_t3_14 g (mem_foot1.2 hg)))
  clear o_t3_14
  have o_H_15 := o_H_14.keep (fun g hg => hb15.block g (foot_lt o_H_14 g (mem_foot1.2 hg)))
  clear o_H_14
  go_wp2_with fail
  go_ret
  exact ⟨rfl, hB15⟩

set_option maxRecDepth 100000 in
set_option maxHeartbeats 4000000 in
theorem FnExactClear_law (w : World) (v : Value) (z : List Int) (wk : Int) (h : RdL FI w w.heap.size v z) :
    Calls Try.prog 4 #[v, .int .i64 wk] w fun e w' => e = .returned (.bool true) ∧ Below w.heap.size w w' := by
  obtain ⟨A, c, hv, q1, q2, _⟩ := id h
  have hlt0 : z.length ≤ 9223372036854775807 := by unfold maxLen at q2; omega
  subst hv
  clear q1 q2
  by_cases hs : z.length ≤ 1048576
  case neg =>
    go_enter Try.func4, Try.ntmps4
    go_wp2
    go_ret
    exact ⟨rfl, Below.refl _ _⟩
  have hl1 : (clearL z wk).1.length ≤ 1048576 := by unfold clearL; split <;> simp [hs]
  go_enter Try.func4, Try.ntmps4
  have hB0 : Below w.heap.size w w := Below.refl _ _
  go_wp2_with fail
  refine (toIntS_ct _ _ z (rd_up h hB0) (by omega)).mono ?_
  rintro e w1 ⟨rfl, oc1, hb1⟩
  have hB1 := hB0.trans (hb1.mono hB0.size)
  have fc1 : ∀ g ∈ foot1 (.slice (some ⟨w.heap.size, 0, none⟩) z.length z.length), w.heap.size ≤ g := by simp [foot1, Value.ownBlock]
  go_wp2_with fail
  refine (Clear_spec _ _ z _ oc1.rd' (by omega)).mono ?_
  rintro e w2 ⟨v2, rfl, oc2, fc2, hb2⟩
  have hB2 := hB1.trans (hb2.mono hB1.size)
  have o_t1_2 := oc1.keep (fun g hg => hb2.block g (foot_lt oc1 g (mem_foot1.2 hg)))
  go_wp2_with fail
  refine (toIntS_ct _ _ z (rd_up h hB2) (by omega)).mono ?_
  rintro e w3 ⟨rfl, oc3, hb3⟩
  have hB3 := hB2.trans (hb3.mono hB2.size)
  have o_t1_3 := o_t1_2.keep (fun g hg => hb3.block g (foot_lt o_t1_2 g (mem_foot1.2 hg)))
  clear o_t1_2
  have o_W_3 := oc2.keep (fun g hg => hb3.block g (foot_lt oc2 g (mem_foot1.2 hg)))
  have fc3 : ∀ g ∈ foot1 (.slice (some ⟨w2.heap.size, 0, none⟩) z.length z.length), w2.heap.size ≤ g := by simp [foot1, Value.ownBlock]
  go_wp2_with fail
  refine (Clear_impl _ _ z _ oc3.rd' (by omega)).mono ?_
  rintro e w4 ⟨v4, rfl, oc4, fc4, hb4⟩
  have hB4 := hB3.trans (hb4.mono hB3.size)
  have o_t1_4 := o_t1_3.keep (fun g hg => hb4.block g (foot_lt o_t1_3 g (mem_foot1.2 hg)))
  clear o_t1_3
  have o_W_4 := o_W_3.keep (fun g hg => hb4.block g (foot_lt o_W_3 g (mem_foot1.2 hg)))
  clear o_W_3
  have o_x0_4 := oc3.keep (fun g hg => hb4.block g (foot_lt oc3 g (mem_foot1.2 hg)))
  go_wp2_with fail
  refine (eqIntS_ct _ _ _ _ oc4.rd' o_W_4.rd' (by omega)).mono ?_
  rintro e w5 ⟨rfl, hb5⟩
  have hB5 := hB4.trans (hb5.mono hB4.size)
  have o_t1_5 := o_t1_4.keep (fun g hg => hb5.block g (foot_lt o_t1_4 g (mem_foot1.2 hg)))
  clear o_t1_4
  have o_W_5 := o_W_4.keep (fun g hg => hb5.block g (foot_lt o_W_4 g (mem_foot1.2 hg)))
  clear o_W_4
  have o_x0_5 := o_x0_4.keep (fun g hg => hb5.block g (foot_lt o_x0_4 g (mem_foot1.2 hg)))
  clear o_x0_4
  have o_G_5 := oc4.keep (fun g hg => hb5.block g (foot_lt oc4 g (mem_foot1.2 hg)))
  go_wp2_with fail
  refine (toIntS_ct _ _ z (rd_up h hB5) (by omega)).mono ?_
  rintro e w6 ⟨rfl, oc6, hb6⟩
  have hB6 := hB5.trans (hb6.mono hB5.size)
  have o_t1_6 := o_t1_5.keep (fun g hg => hb6.block g (foot_lt o_t1_5 g (mem_foot1.2 hg)))
  clear o_t1_5
  have o_W_6 := o_W_5.keep (fun g hg => hb6.block g (foot_lt o_W_5 g (mem_foot1.2 hg)))
  clear o_W_5
  have o_x0_6 := o_x0_5.keep (fun g hg => hb6.block g (foot_lt o_x0_5 g (mem_foot1.2 hg)))
  clear o_x0_5
  have o_G_6 := o_G_5.keep (fun g hg => hb6.block g (foot_lt o_G_5 g (mem_foot1.2 hg)))
  clear o_G_5
  have fc6 : ∀ g ∈ foot1 (.slice (some ⟨w5.heap.size, 0, none⟩) z.length z.length), w5.heap.size ≤ g := by simp [foot1, Value.ownBlock]
  go_wp2_with fail
  refine (eqIntS_ct _ _ _ _ o_x0_6.rd' oc6.rd' (by omega)).mono ?_
  rintro e w7 ⟨rfl, hb7⟩
  have hB7 := hB6.trans (hb7.mono hB6.size)
  have o_t1_7 := o_t1_6.keep (fun g hg => hb7.block g (foot_lt o_t1_6 g (mem_foot1.2 hg)))
  clear o_t1_6
  have o_W_7 := o_W_6.keep (fun g hg => hb7.block g (foot_lt o_W_6 g (mem_foot1.2 hg)))
  clear o_W_6
  have o_x0_7 := o_x0_6.keep (fun g hg => hb7.block g (foot_lt o_x0_6 g (mem_foot1.2 hg)))
  clear o_x0_6
  have o_G_7 := o_G_6.keep (fun g hg => hb7.block g (foot_lt o_G_6 g (mem_foot1.2 hg)))
  clear o_G_6
  have o_t2_7 := oc6.keep (fun g hg => hb7.block g (foot_lt oc6 g (mem_foot1.2 hg)))
  go_wp2_with fail
  refine (markIntS_ct _ _ _ _ o_x0_7 (by decide) (by omega)).mono ?_
  rintro e w8 ⟨rfl, om8, hx8, _⟩
  have hc8 := Chg.of_grown hx8
  have hB8 := hB7.trans (hc8.below hB7.size (fun g hm => by have q := fc3 g hm; have := hb1.size; have := hb2.size; have := hb3.size; have := hb4.size; have := hb5.size; have := hb6.size; have := hb7.size; omega))
  have o_t1_8 := o_t1_7.chg hc8 (fun g hg hm => by have p := foot_lt oc1 g hg; have q := fc3 g hm; have := hb1.size; have := hb2.size; have := hb3.size; have := hb4.size; have := hb5.size; have := hb6.size; have := hb7.size; have := hc8.size; omega)
  clear o_t1_7
  have o_W_8 := o_W_7.chg hc8 (fun g hg hm => by have p := foot_lt oc2 g hg; have q := fc3 g hm; have := hb1.size; have := hb2.size; have := hb3.size; have := hb4.size; have := hb5.size; have := hb6.size; have := hb7.size; have := hc8.size; omega)
  clear o_W_7
  have o_G_8 := o_G_7.chg hc8 (fun g hg hm => by have p := foot_lt oc3 g hm; have q := fc4 g hg; have := hb1.size; have := hb2.size; have := hb3.size; have := hb4.size; have := hb5.size; have := hb6.size; have := hb7.size; have := hc8.size; omega)
  clear o_G_7
  have o_t2_8 := o_t2_7.chg hc8 (fun g hg hm => by have p := foot_lt oc3 g hm; have q := fc6 g hg; have := hb1.size; have := hb2.size; have := hb3.size; have := hb4.size; have := hb5.size; have := hb6.size; have := hb7.size; have := hc8.size; omega)
  clear o_t2_7
  clear o_x0_7
  go_wp2_with fail
  refine (eqIntS_ct _ _ _ _ o_G_8.rd' o_W_8.rd' (by omega)).mono ?_
  rintro e w9 ⟨rfl, hb9⟩
  have hB9 := hB8.trans (hb9.mono hB8.size)
  have o_t1_9 := o_t1_8.keep (fun g hg => hb9.block g (foot_lt o_t1_8 g (mem_foot1.2 hg)))
  clear o_t1_8
  have o_W_9 := o_W_8.keep (fun g hg => hb9.block g (foot_lt o_W_8 g (mem_foot1.2 hg)))
  clear o_W_8
  have o_x0_9 := om8.keep (fun g hg => hb9.block g (foot_lt om8 g (mem_foot1.2 hg)))
  clear om8
  have o_G_9 := o_G_8.keep (fun g hg => hb9.block g (foot_lt o_G_8 g (mem_foot1.2 hg)))
  clear o_G_8
  have o_t2_9 := o_t2_8.keep (fun g hg => hb9.block g (foot_lt o_t2_8 g (mem_foot1.2 hg)))
  clear o_t2_8
  go_wp2_with fail
  refine (markIntS_ct _ _ _ _ o_G_9 (by decide) (by omega)).mono ?_
  rintro e w10 ⟨rfl, om10, hx10, _⟩
  have hc10 := Chg.of_grown hx10
  have hB10 := hB9.trans (hc10.below hB9.size (fun g hm => by have q := fc4 g hm; have := hb1.size; have := hb2.size; have := hb3.size; have := hb4.size; have := hb5.size; have := hb6.size; have := hb7.size; have := hc8.size; have := hb9.size; omega))
  have o_t1_10 := o_t1_9.chg hc10 (fun g hg hm => by have p := foot_lt oc1 g hg; have q := fc4 g hm; have := hb1.size; have := hb2.size; have := hb3.size; have := hb4.size; have := hb5.size; have := hb6.size; have := hb7.size; have := hc8.size; have := hb9.size; have := hc10.size; omega)
  clear o_t1_9
  have o_W_10 := o_W_9.chg hc10 (fun g hg hm => by have p := foot_lt oc2 g hg; have q := fc4 g hm; have := hb1.size; have := hb2.size; have := hb3.size; have := hb4.size; have := hb5.size; have := hb6.size; have := hb7.size; have := hc8.size; have := hb9.size; have := hc10.size; omega)
  clear o_W_9
  have o_x0_10 := o_x0_9.chg hc10 (fun g hg hm => by have p := foot_lt oc3 g hg; have q := fc4 g hm; have := hb1.size; have := hb2.size; have := hb3.size; have := hb4.size; have := hb5.size; have := hb6.size; have := hb7.size; have := hc8.size; have := hb9.size; have := hc10.size; omega)
  clear o_x0_9
  have o_t2_10 := o_t2_9.chg hc10 (fun g hg hm => by have p := foot_lt oc4 g hm; have q := fc6 g hg; have := hb1.size; have := hb2.size; have := hb3.size; have := hb4.size; have := hb5.size; have := hb6.size; have := hb7.size; have := hc8.size; have := hb9.size; have := hc10.size; omega)
  clear o_t2_9
  clear o_G_9
  go_wp2_with fail
  refine (heldIntS_ct _ _ _ _ om10.rd' (by decide) (by omega)).mono ?_
  rintro e w11 ⟨rfl, hb11⟩
  have hB11 := hB10.trans (hb11.mono hB10.size)
  have o_t1_11 := o_t1_10.keep (fun g hg => hb11.block g (foot_lt o_t1_10 g (mem_foot1.2 hg)))
  clear o_t1_10
  have o_W_11 := o_W_10.keep (fun g hg => hb11.block g (foot_lt o_W_10 g (mem_foot1.2 hg)))
  clear o_W_10
  have o_x0_11 := o_x0_10.keep (fun g hg => hb11.block g (foot_lt o_x0_10 g (mem_foot1.2 hg)))
  clear o_x0_10
  have o_G_11 := om10.keep (fun g hg => hb11.block g (foot_lt om10 g (mem_foot1.2 hg)))
  clear om10
  have o_t2_11 := o_t2_10.keep (fun g hg => hb11.block g (foot_lt o_t2_10 g (mem_foot1.2 hg)))
  clear o_t2_10
  go_wp2_with fail
  refine (toIntS_ct _ _ z (rd_up h hB11) (by omega)).mono ?_
  rintro e w12 ⟨rfl, oc12, hb12⟩
  have hB12 := hB11.trans (hb12.mono hB11.size)
  have o_t1_12 := o_t1_11.keep (fun g hg => hb12.block g (foot_lt o_t1_11 g (mem_foot1.2 hg)))
  clear o_t1_11
  have o_W_12 := o_W_11.keep (fun g hg => hb12.block g (foot_lt o_W_11 g (mem_foot1.2 hg)))
  clear o_W_11
  have o_x0_12 := o_x0_11.keep (fun g hg => hb12.block g (foot_lt o_x0_11 g (mem_foot1.2 hg)))
  clear o_x0_11
  have o_G_12 := o_G_11.keep (fun g hg => hb12.block g (foot_lt o_G_11 g (mem_foot1.2 hg)))
  clear o_G_11
  have o_t2_12 := o_t2_11.keep (fun g hg => hb12.block g (foot_lt o_t2_11 g (mem_foot1.2 hg)))
  clear o_t2_11
  have fc12 : ∀ g ∈ foot1 (.slice (some ⟨w11.heap.size, 0, none⟩) z.length z.length), w11.heap.size ≤ g := by simp [foot1, Value.ownBlock]
  go_wp2_with fail
  refine (Clear_impl _ _ z _ oc12.rd' (by omega)).mono ?_
  rintro e w13 ⟨v13, rfl, oc13, fc13, hb13⟩
  have hB13 := hB12.trans (hb13.mono hB12.size)
  have o_t1_13 := o_t1_12.keep (fun g hg => hb13.block g (foot_lt o_t1_12 g (mem_foot1.2 hg)))
  clear o_t1_12
  have o_W_13 := o_W_12.keep (fun g hg => hb13.block g (foot_lt o_W_12 g (mem_foot1.2 hg)))
  clear o_W_12
  have o_x0_13 := o_x0_12.keep (fun g hg => hb13.block g (foot_lt o_x0_12 g (mem_foot1.2 hg)))
  clear o_x0_12
  have o_G_13 := o_G_12.keep (fun g hg => hb13.block g (foot_lt o_G_12 g (mem_foot1.2 hg)))
  clear o_G_12
  have o_t2_13 := o_t2_12.keep (fun g hg => hb13.block g (foot_lt o_t2_12 g (mem_foot1.2 hg)))
  clear o_t2_12
  have o_t3_13 := oc12.keep (fun g hg => hb13.block g (foot_lt oc12 g (mem_foot1.2 hg)))
  go_wp2_with fail
  refine (eqIntS_ct _ _ _ _ oc13.rd' o_W_13.rd' (by omega)).mono ?_
  rintro e w14 ⟨rfl, hb14⟩
  have hB14 := hB13.trans (hb14.mono hB13.size)
  have o_t1_14 := o_t1_13.keep (fun g hg => hb14.block g (foot_lt o_t1_13 g (mem_foot1.2 hg)))
  clear o_t1_13
  have o_W_14 := o_W_13.keep (fun g hg => hb14.block g (foot_lt o_W_13 g (mem_foot1.2 hg)))
  clear o_W_13
  have o_x0_14 := o_x0_13.keep (fun g hg => hb14.block g (foot_lt o_x0_13 g (mem_foot1.2 hg)))
  clear o_x0_13
  have o_G_14 := o_G_13.keep (fun g hg => hb14.block g (foot_lt o_G_13 g (mem_foot1.2 hg)))
  clear o_G_13
  have o_t2_14 := o_t2_13.keep (fun g hg => hb14.block g (foot_lt o_t2_13 g (mem_foot1.2 hg)))
  clear o_t2_13
  have o_t3_14 := o_t3_13.keep (fun g hg => hb14.block g (foot_lt o_t3_13 g (mem_foot1.2 hg)))
  clear o_t3_13
  have o_H_14 := oc13.keep (fun g hg => hb14.block g (foot_lt oc13 g (mem_foot1.2 hg)))
  go_wp2_with fail
  refine (heldIntS_ct _ _ _ _ o_G_14.rd' (by decide) (by omega)).mono ?_
  rintro e w15 ⟨rfl, hb15⟩
  have hB15 := hB14.trans (hb15.mono hB14.size)
  have o_t1_15 := o_t1_14.keep (fun g hg => hb15.block g (foot_lt o_t1_14 g (mem_foot1.2 hg)))
  clear o_t1_14
  have o_W_15 := o_W_14.keep (fun g hg => hb15.block g (foot_lt o_W_14 g (mem_foot1.2 hg)))
  clear o_W_14
  have o_x0_15 := o_x0_14.keep (fun g hg => hb15.block g (foot_lt o_x0_14 g (mem_foot1.2 hg)))
  clear o_x0_14
  have o_G_15 := o_G_14.keep (fun g hg => hb15.block g (foot_lt o_G_14 g (mem_foot1.2 hg)))
  clear o_G_14
  have o_t2_15 := o_t2_14.keep (fun g hg => hb15.block g (foot_lt o_t2_14 g (mem_foot1.2 hg)))
  clear o_t2_14
  have o_t3_15 := o_t3_14.keep (fun g hg => hb15.block g (foot_lt o_t3_14 g (mem_foot1.2 hg)))
  clear o_t3_14
  have o_H_15 := o_H_14.keep (fun g hg => hb15.block g (foot_lt o_H_14 g (mem_foot1.2 hg)))
  clear o_H_14
  go_wp2_with fail
  go_ret
  exact ⟨rfl, hB15⟩
end Go.Proofs.Ytobcdcfbhfoheaa
