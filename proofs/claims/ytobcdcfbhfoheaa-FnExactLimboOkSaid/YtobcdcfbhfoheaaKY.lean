/-
  The law FnExactLimboOk, walked.
-/
import Derived.Test.YtobcdcfbhfoheaaW
import Derived.Test.YtobcdcfbhfoheaaK
namespace Go.Proofs.Ytobcdcfbhfoheaa
open Go.RowKit

set_option maxRecDepth 100000 in
set_option maxHeartbeats 4000000 in
theorem FnExactLimboOk_law (w : World) (v : Value) (t : List SV) (ll : List (List LRow)) (h : RdLL FLRow w w.heap.size v t ll) :
    Calls Try.prog 10 #[v] w fun e w' => e = .returned (.bool true) ∧ Below w.heap.size w w' := by
  obtain ⟨A, c, hv, _⟩ := id h.outer
  subst hv
  obtain ⟨en, hcap, hmx⟩ := h.len'
  have hlt0 : ll.length ≤ 9223372036854775807 := by unfold maxLen at hmx; omega
  rw [en] at h ⊢
  clear en hcap hmx
  by_cases hs : szLL ll ≤ 1048576
  case neg =>
    have HL := Hid.mk_ (leftOf_neg hs)
    go_enter Try.func10, Try.ntmps10
    go_wp2_with (go_at_call 31; refine (szLListS_ct _ _ t ll 1048576 h (by decide)).mono ?_; rw [HL.out]; rintro e w1 ⟨rfl, hb1⟩)
    go_ret
    exact ⟨rfl, hb1⟩
  have HL := Hid.mk_ (leftOf_pos hs)
  go_enter Try.func10, Try.ntmps10
  have hB0 : Below w.heap.size w w := Below.refl _ _
  go_wp2_with fail
  refine (szLListS_ct _ _ t ll 1048576 (rdLL_up h hB0) (by decide)).mono ?_
  rintro e w1 ⟨rfl, hb1⟩
  have hB1 := hB0.trans (hb1.mono hB0.size)
  rw [HL.out]
  go_wp2_with fail
  refine (toLListS_ct _ _ t ll (rdLL_up h hB1) hs).mono ?_
  rintro e w2 ⟨t2, rfl, oc2, fc2, hb2⟩
  have hB2 := hB1.trans (hb2.mono hB1.size)
  go_wp2_with fail
  refine (LimboOk_spec _ _ _ ll  oc2.rd' (by omega)).mono ?_
  rintro e w3 ⟨rfl, hb3⟩
  have hB3 := hB2.trans (hb3.mono hB2.size)
  have o_t1_3 := oc2.keep (fun g hg => hb3.block g (oc2.lt g hg))
  go_wp2_with fail
  refine (toLListS_ct _ _ t ll (rdLL_up h hB3) hs).mono ?_
  rintro e w4 ⟨t4, rfl, oc4, fc4, hb4⟩
  have hB4 := hB3.trans (hb4.mono hB3.size)
  have o_t1_4 := o_t1_3.keep (fun g hg => hb4.block g (o_t1_3.lt g hg))
  clear o_t1_3
  go_wp2_with fail
  refine (LimboOk_impl _ _ _ ll  oc4.rd' (by omega)).mono ?_
  rintro e w5 ⟨rfl, hb5⟩
  have hB5 := hB4.trans (hb5.mono hB4.size)
  have o_t1_5 := o_t1_4.keep (fun g hg => hb5.block g (o_t1_4.lt g hg))
  clear o_t1_4
  have o_x0_5 := oc4.keep (fun g hg => hb5.block g (oc4.lt g hg))
  go_wp2_with fail
  refine (toLListS_ct _ _ t ll (rdLL_up h hB5) hs).mono ?_
  rintro e w6 ⟨t6, rfl, oc6, fc6, hb6⟩
  have hB6 := hB5.trans (hb6.mono hB5.size)
  have o_t1_6 := o_t1_5.keep (fun g hg => hb6.block g (o_t1_5.lt g hg))
  clear o_t1_5
  have o_x0_6 := o_x0_5.keep (fun g hg => hb6.block g (o_x0_5.lt g hg))
  clear o_x0_5
  go_wp2_with fail
  refine (eqLListS_ct _ _ _ _ _ ll o_x0_6.rd' oc6.rd' (by omega)).mono ?_
  rintro e w7 ⟨rfl, hb7⟩
  have hB7 := hB6.trans (hb7.mono hB6.size)
  have o_t1_7 := o_t1_6.keep (fun g hg => hb7.block g (o_t1_6.lt g hg))
  clear o_t1_6
  have o_x0_7 := o_x0_6.keep (fun g hg => hb7.block g (o_x0_6.lt g hg))
  clear o_x0_6
  have o_t2_7 := oc6.keep (fun g hg => hb7.block g (oc6.lt g hg))
  go_wp2_with fail
  go_ret
  exact ⟨rfl, hB7⟩
end Go.Proofs.Ytobcdcfbhfoheaa
