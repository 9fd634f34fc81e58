/-
  The law FnExactSameLimbo, walked.
-/
import Derived.Test.YtobcdcfbhfoheaaW
import Derived.Test.YtobcdcfbhfoheaaS
namespace Go.Proofs.Ytobcdcfbhfoheaa
open Go.RowKit

set_option maxRecDepth 100000 in
set_option maxHeartbeats 4000000 in
theorem FnExactSameLimbo_law (w : World) (v1 v2 : Value) (t1 t2 : List SV) (a b : List (List LRow)) (h1 : RdLL FLRow w w.heap.size v1 t1 a) (h2 : RdLL FLRow w w.heap.size v2 t2 b) :
    Calls Try.prog 8 #[v1, v2] w fun e w' => e = .returned (.bool true) ∧ Below w.heap.size w w' := by
  obtain ⟨A1, c1, hv1, _⟩ := id h1.outer
  obtain ⟨A2, c2, hv2, _⟩ := id h2.outer
  subst hv1 hv2
  obtain ⟨en1, hcap1, hmx1⟩ := h1.len'
  obtain ⟨en2, _, hmx2⟩ := h2.len'
  have hlt1 : a.length ≤ 9223372036854775807 := by unfold maxLen at hmx1; omega
  have hlt2 : b.length ≤ 9223372036854775807 := by unfold maxLen at hmx2; omega
  rw [en1] at h1 ⊢
  rw [en2] at h2 ⊢
  clear en1 hcap1 hmx1 en2 hmx2
  by_cases hs1 : szLL a ≤ 1048576
  case neg =>
    have HL := Hid.mk_ (leftOf_neg hs1)
    go_enter Try.func8, Try.ntmps8
    go_wp2_with (go_at_call 31; refine (szLListS_ct _ _ t1 a 1048576 h1 (by decide)).mono ?_; rw [HL.out]; rintro e w1 ⟨rfl, hb1⟩)
    go_ret
    exact ⟨rfl, hb1⟩
  obtain ⟨m, hm⟩ : ∃ m, m = 1048576 - szLL a := ⟨_, rfl⟩
  have HL1 := Hid.mk_ (show leftOf 1048576 (szLL a) = ((m : Nat) : Int) by rw [leftOf_pos hs1]; omega)
  have hm2 : m ≤ 1048576 := by omega
  clear hm
  by_cases hs2 : szLL b ≤ m
  case neg =>
    have HL2 := Hid.mk_ (leftOf_neg hs2)
    go_enter Try.func8, Try.ntmps8
    go_wp2_with fail
    refine (szLListS_ct _ _ t1 a 1048576 h1 (by decide)).mono ?_
    rw [HL1.out]
    rintro e w1 ⟨rfl, hb1⟩
    go_wp2_with fail
    refine (szLListS_ct _ _ t2 b m (rdLL_up h2 hb1) (by omega)).mono ?_
    rw [HL2.out]
    rintro e w2 ⟨rfl, hb2⟩
    go_wp2
    go_ret
    exact ⟨rfl, hb1.trans (hb2.mono hb1.size)⟩
  have HL2 := Hid.mk_ (show leftOf m (szLL b) = ((m - szLL b : Nat) : Int) by rw [leftOf_pos hs2]; omega)
  go_enter Try.func8, Try.ntmps8
  have hB0 : Below w.heap.size w w := Below.refl _ _
  go_wp2_with fail
  refine (szLListS_ct _ _ t1 a 1048576 (rdLL_up h1 hB0) (by decide)).mono ?_
  rintro e w1 ⟨rfl, hb1⟩
  have hB1 := hB0.trans (hb1.mono hB0.size)
  rw [HL1.out]
  go_wp2_with fail
  refine (szLListS_ct _ _ t2 b m (rdLL_up h2 hB1) (by omega)).mono ?_
  rintro e w2 ⟨rfl, hb2⟩
  have hB2 := hB1.trans (hb2.mono hB1.size)
  rw [HL2.out]
  go_wp2_with fail
  refine (toLListS_ct _ _ t1 a (rdLL_up h1 hB2) (by omega)).mono ?_
  rintro e w3 ⟨t3x, rfl, oc3, fc3, hb3⟩
  have hB3 := hB2.trans (hb3.mono hB2.size)
  go_wp2_with fail
  refine (toLListS_ct _ _ t2 b (rdLL_up h2 hB3) (by omega)).mono ?_
  rintro e w4 ⟨t4x, rfl, oc4, fc4, hb4⟩
  have hB4 := hB3.trans (hb4.mono hB3.size)
  have o_ta_4 := oc3.keep (fun g hg => hb4.block g (oc3.lt g hg))
  go_wp2_with fail
  refine (SameLimbo_spec _ _ _ _ _ a b o_ta_4.rd' oc4.rd').mono ?_
  rintro e w5 ⟨rfl, hb5⟩
  have hB5 := hB4.trans (hb5.mono hB4.size)
  have o_ta_5 := o_ta_4.keep (fun g hg => hb5.block g (o_ta_4.lt g hg))
  clear o_ta_4
  have o_tb_5 := oc4.keep (fun g hg => hb5.block g (oc4.lt g hg))
  go_wp2_with fail
  refine (toLListS_ct _ _ t1 a (rdLL_up h1 hB5) (by omega)).mono ?_
  rintro e w6 ⟨t6x, rfl, oc6, fc6, hb6⟩
  have hB6 := hB5.trans (hb6.mono hB5.size)
  have o_ta_6 := o_ta_5.keep (fun g hg => hb6.block g (o_ta_5.lt g hg))
  clear o_ta_5
  have o_tb_6 := o_tb_5.keep (fun g hg => hb6.block g (o_tb_5.lt g hg))
  clear o_tb_5
  go_wp2_with fail
  refine (toLListS_ct _ _ t2 b (rdLL_up h2 hB6) (by omega)).mono ?_
  rintro e w7 ⟨t7x, rfl, oc7, fc7, hb7⟩
  have hB7 := hB6.trans (hb7.mono hB6.size)
  have o_ta_7 := o_ta_6.keep (fun g hg => hb7.block g (o_ta_6.lt g hg))
  clear o_ta_6
  have o_tb_7 := o_tb_6.keep (fun g hg => hb7.block g (o_tb_6.lt g hg))
  clear o_tb_6
  have o_x0_7 := oc6.keep (fun g hg => hb7.block g (oc6.lt g hg))
  go_wp2_with fail
  refine (SameLimbo_impl _ _ _ _ _ a b o_x0_7.rd' oc7.rd').mono ?_
  rintro e w8 ⟨rfl, hb8⟩
  have hB8 := hB7.trans (hb8.mono hB7.size)
  have o_ta_8 := o_ta_7.keep (fun g hg => hb8.block g (o_ta_7.lt g hg))
  clear o_ta_7
  have o_tb_8 := o_tb_7.keep (fun g hg => hb8.block g (o_tb_7.lt g hg))
  clear o_tb_7
  have o_x0_8 := o_x0_7.keep (fun g hg => hb8.block g (o_x0_7.lt g hg))
  clear o_x0_7
  have o_x1_8 := oc7.keep (fun g hg => hb8.block g (oc7.lt g hg))
  go_wp2_with fail
  refine (toLListS_ct _ _ t1 a (rdLL_up h1 hB8) (by omega)).mono ?_
  rintro e w9 ⟨t9x, rfl, oc9, fc9, hb9⟩
  have hB9 := hB8.trans (hb9.mono hB8.size)
  have o_ta_9 := o_ta_8.keep (fun g hg => hb9.block g (o_ta_8.lt g hg))
  clear o_ta_8
  have o_tb_9 := o_tb_8.keep (fun g hg => hb9.block g (o_tb_8.lt g hg))
  clear o_tb_8
  have o_x0_9 := o_x0_8.keep (fun g hg => hb9.block g (o_x0_8.lt g hg))
  clear o_x0_8
  have o_x1_9 := o_x1_8.keep (fun g hg => hb9.block g (o_x1_8.lt g hg))
  clear o_x1_8
  go_wp2_with fail
  refine (eqLListS_ct _ _ _ _ _ a o_x0_9.rd' oc9.rd' (by omega)).mono ?_
  rintro e w10 ⟨rfl, hb10⟩
  have hB10 := hB9.trans (hb10.mono hB9.size)
  have o_ta_10 := o_ta_9.keep (fun g hg => hb10.block g (o_ta_9.lt g hg))
  clear o_ta_9
  have o_tb_10 := o_tb_9.keep (fun g hg => hb10.block g (o_tb_9.lt g hg))
  clear o_tb_9
  have o_x0_10 := o_x0_9.keep (fun g hg => hb10.block g (o_x0_9.lt g hg))
  clear o_x0_9
  have o_x1_10 := o_x1_9.keep (fun g hg => hb10.block g (o_x1_9.lt g hg))
  clear o_x1_9
  have o_tc_10 := oc9.keep (fun g hg => hb10.block g (oc9.lt g hg))
  go_wp2_with fail
  refine (toLListS_ct _ _ t2 b (rdLL_up h2 hB10) (by omega)).mono ?_
  rintro e w11 ⟨t11x, rfl, oc11, fc11, hb11⟩
  have hB11 := hB10.trans (hb11.mono hB10.size)
  have o_ta_11 := o_ta_10.keep (fun g hg => hb11.block g (o_ta_10.lt g hg))
  clear o_ta_10
  have o_tb_11 := o_tb_10.keep (fun g hg => hb11.block g (o_tb_10.lt g hg))
  clear o_tb_10
  have o_x0_11 := o_x0_10.keep (fun g hg => hb11.block g (o_x0_10.lt g hg))
  clear o_x0_10
  have o_x1_11 := o_x1_10.keep (fun g hg => hb11.block g (o_x1_10.lt g hg))
  clear o_x1_10
  have o_tc_11 := o_tc_10.keep (fun g hg => hb11.block g (o_tc_10.lt g hg))
  clear o_tc_10
  go_wp2_with fail
  refine (eqLListS_ct _ _ _ _ _ b o_x1_11.rd' oc11.rd' (by omega)).mono ?_
  rintro e w12 ⟨rfl, hb12⟩
  have hB12 := hB11.trans (hb12.mono hB11.size)
  have o_ta_12 := o_ta_11.keep (fun g hg => hb12.block g (o_ta_11.lt g hg))
  clear o_ta_11
  have o_tb_12 := o_tb_11.keep (fun g hg => hb12.block g (o_tb_11.lt g hg))
  clear o_tb_11
  have o_x0_12 := o_x0_11.keep (fun g hg => hb12.block g (o_x0_11.lt g hg))
  clear o_x0_11
  have o_x1_12 := o_x1_11.keep (fun g hg => hb12.block g (o_x1_11.lt g hg))
  clear o_x1_11
  have o_tc_12 := o_tc_11.keep (fun g hg => hb12.block g (o_tc_11.lt g hg))
  clear o_tc_11
  have o_td_12 := oc11.keep (fun g hg => hb12.block g (oc11.lt g hg))
  go_wp2_with fail
  go_ret
  exact ⟨rfl, hB12⟩
end Go.Proofs.Ytobcdcfbhfoheaa
