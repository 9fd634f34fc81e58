/-
  FnExactDropRow, walked.
-/
import Derived.Test.YtobcdcfbhfoheaaUY
import Derived.Test.YtobcdcfbhfoheaaD2
namespace Go.Proofs.Ytobcdcfbhfoheaa
open Go.RowKit

set_option maxRecDepth 100000 in
set_option maxHeartbeats 4000000 in
theorem FnExactDropRow_law (w : World) (v0 : Value) (t0 : List SV) (l0 : List (List LRow)) (a : Int) (b : Int) (h0 : RdLL FLRow w w.heap.size v0 t0 l0) :
    Calls Try.prog 13 #[v0, .int .i64 a, .int .i64 b] w fun e w' => e = .returned (.bool true) ∧ Below w.heap.size w w' := by
  obtain ⟨A0, c0, hv0, _⟩ := id h0.outer
  subst hv0
  obtain ⟨en, hcap, hmx⟩ := h0.len'
  have hlt0 : l0.length ≤ 9223372036854775807 := by unfold maxLen at hmx; omega
  rw [en] at h0 ⊢
  clear en hcap hmx
  have hz0 : totLL l0 ≤ szLL l0 := Nat.le_add_left _ _
  by_cases hs : szLL l0 ≤ 1048576
  case neg =>
    have HL := Hid.mk_ (leftOf_neg hs)
    go_enter Try.func13, Try.ntmps13
    have hB0 : Below w.heap.size w w := Below.refl _ _
    go_wp2_with fail
    refine (szLListS_ct _ _ t0 l0 1048576 (rdLL_up h0 hB0) (by omega)).mono ?_
    rw [HL.out]
    rintro e w1 ⟨rfl, hb1⟩
    go_wp2_with fail
    go_ret
    exact ⟨rfl, hb1⟩
  have HL0 := Hid.mk_ (leftOf_pos hs)
  have hl1 : szLL (dropL l0 a b).1 ≤ 2097153 := by
    unfold dropL
    split
    · rename_i hh
      have h := szLL_set_le l0 a.toNat (delAt (l0.getD a.toNat []) b.toNat)
      have h2 := getD_le l0 a.toNat
      have h3 : (delAt (l0.getD a.toNat []) b.toNat).length ≤ (l0.getD a.toNat []).length + 1 := by
        unfold delAt
        rw [List.length_append, List.length_take, List.length_drop]
        have h4 := inB_iff.1 hh.2.2
        omega
      simp only
      omega
    · simp only; omega
  have hl2 : totLL (dropL l0 a b).1 ≤ szLL (dropL l0 a b).1 := Nat.le_add_left _ _
  go_enter Try.func13, Try.ntmps13
  have hB0 : Below w.heap.size w w := Below.refl _ _
  go_wp2_with fail
  refine (szLListS_ct _ _ t0 l0 1048576 (rdLL_up h0 hB0) (by omega)).mono ?_
  rintro e w1 ⟨rfl, hb1⟩
  have hB1 := hB0.trans (hb1.mono hB0.size)
  rw [HL0.out]
  go_wp2_with fail
  refine (toLListS_ct _ _ t0 l0 (rdLL_up h0 hB1) (by omega)).mono ?_
  rintro e w2 ⟨t2x, rfl, oc2, fc2, hb2⟩
  have hB2 := hB1.trans (hb2.mono hB1.size)
  go_wp2_with fail
  refine (DropRow_spec _ _ _ l0 _ _ oc2.rd' (by omega) ).mono ?_
  rintro e w3 ⟨v3, t3x, rfl, oc3, fc3, hb3⟩
  have hB3 := hB2.trans (hb3.mono hB2.size)
  have o_a0_3 := oc2.keep (fun g hg => hb3.block g (oc2.lt g hg))
  go_wp2_with fail
  refine (toLListS_ct _ _ t0 l0 (rdLL_up h0 hB3) (by omega)).mono ?_
  rintro e w4 ⟨t4x, rfl, oc4, fc4, hb4⟩
  have hB4 := hB3.trans (hb4.mono hB3.size)
  have o_a0_4 := o_a0_3.keep (fun g hg => hb4.block g (o_a0_3.lt g hg))
  clear o_a0_3
  have o_W_4 := oc3.keep (fun g hg => hb4.block g (oc3.lt g hg))
  go_wp2_with fail
  refine (DropRow_impl _ _ _ l0 _ _ oc4.rd' (by omega) ).mono ?_
  rintro e w5 ⟨v5, t5x, rfl, oc5, fc5, hb5⟩
  have hB5 := hB4.trans (hb5.mono hB4.size)
  have o_a0_5 := o_a0_4.keep (fun g hg => hb5.block g (o_a0_4.lt g hg))
  clear o_a0_4
  have o_W_5 := o_W_4.keep (fun g hg => hb5.block g (o_W_4.lt g hg))
  clear o_W_4
  have o_x0_5 := oc4.keep (fun g hg => hb5.block g (oc4.lt g hg))
  go_wp2_with fail
  refine (eqLListS_ct _ _ _ _ _ _ oc5.rd' o_W_5.rd' (by omega)).mono ?_
  rintro e w6 ⟨rfl, hb6⟩
  have hB6 := hB5.trans (hb6.mono hB5.size)
  have o_a0_6 := o_a0_5.keep (fun g hg => hb6.block g (o_a0_5.lt g hg))
  clear o_a0_5
  have o_W_6 := o_W_5.keep (fun g hg => hb6.block g (o_W_5.lt g hg))
  clear o_W_5
  have o_x0_6 := o_x0_5.keep (fun g hg => hb6.block g (o_x0_5.lt g hg))
  clear o_x0_5
  have o_G_6 := oc5.keep (fun g hg => hb6.block g (oc5.lt g hg))
  go_wp2_with fail
  refine (toLListS_ct _ _ t0 l0 (rdLL_up h0 hB6) (by omega)).mono ?_
  rintro e w7 ⟨t7x, rfl, oc7, fc7, hb7⟩
  have hB7 := hB6.trans (hb7.mono hB6.size)
  have o_a0_7 := o_a0_6.keep (fun g hg => hb7.block g (o_a0_6.lt g hg))
  clear o_a0_6
  have o_W_7 := o_W_6.keep (fun g hg => hb7.block g (o_W_6.lt g hg))
  clear o_W_6
  have o_x0_7 := o_x0_6.keep (fun g hg => hb7.block g (o_x0_6.lt g hg))
  clear o_x0_6
  have o_G_7 := o_G_6.keep (fun g hg => hb7.block g (o_G_6.lt g hg))
  clear o_G_6
  go_wp2_with fail
  refine (eqLListS_ct _ _ _ _ _ _ o_x0_7.rd' oc7.rd' (by omega)).mono ?_
  rintro e w8 ⟨rfl, hb8⟩
  have hB8 := hB7.trans (hb8.mono hB7.size)
  have o_a0_8 := o_a0_7.keep (fun g hg => hb8.block g (o_a0_7.lt g hg))
  clear o_a0_7
  have o_W_8 := o_W_7.keep (fun g hg => hb8.block g (o_W_7.lt g hg))
  clear o_W_7
  have o_x0_8 := o_x0_7.keep (fun g hg => hb8.block g (o_x0_7.lt g hg))
  clear o_x0_7
  have o_G_8 := o_G_7.keep (fun g hg => hb8.block g (o_G_7.lt g hg))
  clear o_G_7
  have o_b0_8 := oc7.keep (fun g hg => hb8.block g (oc7.lt g hg))
  go_wp2_with fail
  refine (markLListS_ct _ _ _ _ _ o_x0_8 (by decide) (by omega)).mono ?_
  rintro e w9 ⟨rfl, om9, hx9⟩
  have hc9 := hx9
  have hB9 := hB8.trans (hc9.below hB8.size (fun g hm => by have q := fc4 g hm; have := hb1.size; have := hb2.size; have := hb3.size; have := hb4.size; have := hb5.size; have := hb6.size; have := hb7.size; have := hb8.size; omega))
  have o_a0_9 := o_a0_8.chg hc9 (fun g hg hm => by have p := oc2.lt g hg; have q := fc4 g hm; have := hb1.size; have := hb2.size; have := hb3.size; have := hb4.size; have := hb5.size; have := hb6.size; have := hb7.size; have := hb8.size; have := hc9.size; omega)
  clear o_a0_8
  have o_W_9 := o_W_8.chg hc9 (fun g hg hm => by have p := oc3.lt g hg; have q := fc4 g hm; have := hb1.size; have := hb2.size; have := hb3.size; have := hb4.size; have := hb5.size; have := hb6.size; have := hb7.size; have := hb8.size; have := hc9.size; omega)
  clear o_W_8
  have o_G_9 := o_G_8.chg hc9 (fun g hg hm => by have p := oc4.lt g hm; have q := fc5 g hg; have := hb1.size; have := hb2.size; have := hb3.size; have := hb4.size; have := hb5.size; have := hb6.size; have := hb7.size; have := hb8.size; have := hc9.size; omega)
  clear o_G_8
  have o_b0_9 := o_b0_8.chg hc9 (fun g hg hm => by have p := oc4.lt g hm; have q := fc7 g hg; have := hb1.size; have := hb2.size; have := hb3.size; have := hb4.size; have := hb5.size; have := hb6.size; have := hb7.size; have := hb8.size; have := hc9.size; omega)
  clear o_b0_8
  clear o_x0_8
  go_wp2_with fail
  refine (eqLListS_ct _ _ _ _ _ _ o_G_9.rd' o_W_9.rd' (by omega)).mono ?_
  rintro e w10 ⟨rfl, hb10⟩
  have hB10 := hB9.trans (hb10.mono hB9.size)
  have o_a0_10 := o_a0_9.keep (fun g hg => hb10.block g (o_a0_9.lt g hg))
  clear o_a0_9
  have o_W_10 := o_W_9.keep (fun g hg => hb10.block g (o_W_9.lt g hg))
  clear o_W_9
  have o_x0_10 := om9.keep (fun g hg => hb10.block g (om9.lt g hg))
  clear om9
  have o_G_10 := o_G_9.keep (fun g hg => hb10.block g (o_G_9.lt g hg))
  clear o_G_9
  have o_b0_10 := o_b0_9.keep (fun g hg => hb10.block g (o_b0_9.lt g hg))
  clear o_b0_9
  go_wp2_with fail
  refine (markLListS_ct _ _ _ _ _ o_G_10 (by decide) (by omega)).mono ?_
  rintro e w11 ⟨rfl, om11, hx11⟩
  have hc11 := hx11
  have hB11 := hB10.trans (hc11.below hB10.size (fun g hm => by have q := fc5 g hm; have := hb1.size; have := hb2.size; have := hb3.size; have := hb4.size; have := hb5.size; have := hb6.size; have := hb7.size; have := hb8.size; have := hc9.size; have := hb10.size; omega))
  have o_a0_11 := o_a0_10.chg hc11 (fun g hg hm => by have p := oc2.lt g hg; have q := fc5 g hm; have := hb1.size; have := hb2.size; have := hb3.size; have := hb4.size; have := hb5.size; have := hb6.size; have := hb7.size; have := hb8.size; have := hc9.size; have := hb10.size; have := hc11.size; omega)
  clear o_a0_10
  have o_W_11 := o_W_10.chg hc11 (fun g hg hm => by have p := oc3.lt g hg; have q := fc5 g hm; have := hb1.size; have := hb2.size; have := hb3.size; have := hb4.size; have := hb5.size; have := hb6.size; have := hb7.size; have := hb8.size; have := hc9.size; have := hb10.size; have := hc11.size; omega)
  clear o_W_10
  have o_x0_11 := o_x0_10.chg hc11 (fun g hg hm => by have p := oc4.lt g hg; have q := fc5 g hm; have := hb1.size; have := hb2.size; have := hb3.size; have := hb4.size; have := hb5.size; have := hb6.size; have := hb7.size; have := hb8.size; have := hc9.size; have := hb10.size; have := hc11.size; omega)
  clear o_x0_10
  have o_b0_11 := o_b0_10.chg hc11 (fun g hg hm => by have p := oc5.lt g hm; have q := fc7 g hg; have := hb1.size; have := hb2.size; have := hb3.size; have := hb4.size; have := hb5.size; have := hb6.size; have := hb7.size; have := hb8.size; have := hc9.size; have := hb10.size; have := hc11.size; omega)
  clear o_b0_10
  clear o_G_10
  go_wp2_with fail
  refine (heldLListS_ct _ _ _ _ _ om11.rd' (by decide) (by omega)).mono ?_
  rintro e w12 ⟨rfl, hb12⟩
  have hB12 := hB11.trans (hb12.mono hB11.size)
  have o_a0_12 := o_a0_11.keep (fun g hg => hb12.block g (o_a0_11.lt g hg))
  clear o_a0_11
  have o_W_12 := o_W_11.keep (fun g hg => hb12.block g (o_W_11.lt g hg))
  clear o_W_11
  have o_x0_12 := o_x0_11.keep (fun g hg => hb12.block g (o_x0_11.lt g hg))
  clear o_x0_11
  have o_G_12 := om11.keep (fun g hg => hb12.block g (om11.lt g hg))
  clear om11
  have o_b0_12 := o_b0_11.keep (fun g hg => hb12.block g (o_b0_11.lt g hg))
  clear o_b0_11
  go_wp2_with fail
  refine (toLListS_ct _ _ t0 l0 (rdLL_up h0 hB12) (by omega)).mono ?_
  rintro e w13 ⟨t13x, rfl, oc13, fc13, hb13⟩
  have hB13 := hB12.trans (hb13.mono hB12.size)
  have o_a0_13 := o_a0_12.keep (fun g hg => hb13.block g (o_a0_12.lt g hg))
  clear o_a0_12
  have o_W_13 := o_W_12.keep (fun g hg => hb13.block g (o_W_12.lt g hg))
  clear o_W_12
  have o_x0_13 := o_x0_12.keep (fun g hg => hb13.block g (o_x0_12.lt g hg))
  clear o_x0_12
  have o_G_13 := o_G_12.keep (fun g hg => hb13.block g (o_G_12.lt g hg))
  clear o_G_12
  have o_b0_13 := o_b0_12.keep (fun g hg => hb13.block g (o_b0_12.lt g hg))
  clear o_b0_12
  go_wp2_with fail
  refine (DropRow_impl _ _ _ l0 _ _ oc13.rd' (by omega) ).mono ?_
  rintro e w14 ⟨v14, t14x, rfl, oc14, fc14, hb14⟩
  have hB14 := hB13.trans (hb14.mono hB13.size)
  have o_a0_14 := o_a0_13.keep (fun g hg => hb14.block g (o_a0_13.lt g hg))
  clear o_a0_13
  have o_W_14 := o_W_13.keep (fun g hg => hb14.block g (o_W_13.lt g hg))
  clear o_W_13
  have o_x0_14 := o_x0_13.keep (fun g hg => hb14.block g (o_x0_13.lt g hg))
  clear o_x0_13
  have o_G_14 := o_G_13.keep (fun g hg => hb14.block g (o_G_13.lt g hg))
  clear o_G_13
  have o_b0_14 := o_b0_13.keep (fun g hg => hb14.block g (o_b0_13.lt g hg))
  clear o_b0_13
  have o_y0_14 := oc13.keep (fun g hg => hb14.block g (oc13.lt g hg))
  go_wp2_with fail
  refine (eqLListS_ct _ _ _ _ _ _ oc14.rd' o_W_14.rd' (by omega)).mono ?_
  rintro e w15 ⟨rfl, hb15⟩
  have hB15 := hB14.trans (hb15.mono hB14.size)
  have o_a0_15 := o_a0_14.keep (fun g hg => hb15.block g (o_a0_14.lt g hg))
  clear o_a0_14
  have o_W_15 := o_W_14.keep (fun g hg => hb15.block g (o_W_14.lt g hg))
  clear o_W_14
  have o_x0_15 := o_x0_14.keep (fun g hg => hb15.block g (o_x0_14.lt g hg))
  clear o_x0_14
  have o_G_15 := o_G_14.keep (fun g hg => hb15.block g (o_G_14.lt g hg))
  clear o_G_14
  have o_b0_15 := o_b0_14.keep (fun g hg => hb15.block g (o_b0_14.lt g hg))
  clear o_b0_14
  have o_y0_15 := o_y0_14.keep (fun g hg => hb15.block g (o_y0_14.lt g hg))
  clear o_y0_14
  have o_H_15 := oc14.keep (fun g hg => hb15.block g (oc14.lt g hg))
  go_wp2_with fail
  refine (heldLListS_ct _ _ _ _ _ o_G_15.rd' (by decide) (by omega)).mono ?_
  rintro e w16 ⟨rfl, hb16⟩
  have hB16 := hB15.trans (hb16.mono hB15.size)
  have o_a0_16 := o_a0_15.keep (fun g hg => hb16.block g (o_a0_15.lt g hg))
  clear o_a0_15
  have o_W_16 := o_W_15.keep (fun g hg => hb16.block g (o_W_15.lt g hg))
  clear o_W_15
  have o_x0_16 := o_x0_15.keep (fun g hg => hb16.block g (o_x0_15.lt g hg))
  clear o_x0_15
  have o_G_16 := o_G_15.keep (fun g hg => hb16.block g (o_G_15.lt g hg))
  clear o_G_15
  have o_b0_16 := o_b0_15.keep (fun g hg => hb16.block g (o_b0_15.lt g hg))
  clear o_b0_15
  have o_y0_16 := o_y0_15.keep (fun g hg => hb16.block g (o_y0_15.lt g hg))
  clear o_y0_15
  have o_H_16 := o_H_15.keep (fun g hg => hb16.block g (o_H_15.lt g hg))
  clear o_H_15
  go_wp2_with fail
  go_ret
  exact ⟨rfl, hB16⟩
end Go.Proofs.Ytobcdcfbhfoheaa
