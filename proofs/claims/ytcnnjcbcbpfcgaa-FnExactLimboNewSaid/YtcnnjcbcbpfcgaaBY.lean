/-
  FnExactLimboNew, walked.
-/
import Derived.Test.YtcnnjcbcbpfcgaaB
namespace Go.Proofs.Ytcnnjcbcbpfcgaa
open Go.RowKit

set_option maxRecDepth 100000 in
set_option maxHeartbeats 4000000 in
theorem FnExactLimboNew_law (w : World) : Calls Try.prog 12 #[] w fun e w' => e = .returned (.bool true) ∧ Below w.heap.size w w' := by
  go_enter Try.func12, Try.ntmps12
  have hB0 : Below w.heap.size w w := Below.refl _ _
  go_wp2_with fail
  refine (LimboNew_spec _).mono ?_
  rintro e w1 ⟨v1, t1, rfl, oc1, fc1, hb1⟩
  have hB1 := hB0.trans (hb1.mono hB0.size)
  go_wp2_with fail
  refine (LimboNew_impl _).mono ?_
  rintro e w2 ⟨v2, t2, rfl, oc2, fc2, hb2⟩
  have hB2 := hB1.trans (hb2.mono hB1.size)
  have o_W_2 := oc1.keep (fun g hg => hb2.block g (oc1.lt g hg))
  go_wp2_with fail
  refine (eqLListS_ct _ _ _ _ _ _ oc2.rd' o_W_2.rd' (by decide)).mono ?_
  rintro e w3 ⟨rfl, hb3⟩
  have hB3 := hB2.trans (hb3.mono hB2.size)
  have o_W_3 := o_W_2.keep (fun g hg => hb3.block g (o_W_2.lt g hg))
  clear o_W_2
  have o_G_3 := oc2.keep (fun g hg => hb3.block g (oc2.lt g hg))
  go_wp2_with fail
  refine (markLListS_ct _ _ _ _ _ o_G_3 (by decide) (by decide)).mono ?_
  rintro e w4 ⟨rfl, om4, hx4⟩
  have hc4 := hx4
  have hB4 := hB3.trans (hc4.below hB3.size (fun g hm => by have q := fc2 g hm; have := hb1.size; have := hb2.size; have := hb3.size; omega))
  have o_W_4 := o_W_3.chg hc4 (fun g hg hm => by have p := oc1.lt g hg; have q := fc2 g hm; have := hb1.size; have := hb2.size; have := hb3.size; have := hc4.size; omega)
  clear o_W_3
  clear o_G_3
  go_wp2_with fail
  refine (heldLListS_ct _ _ _ _ _ om4.rd' (by decide) (by decide)).mono ?_
  rintro e w5 ⟨rfl, hb5⟩
  have hB5 := hB4.trans (hb5.mono hB4.size)
  have o_W_5 := o_W_4.keep (fun g hg => hb5.block g (o_W_4.lt g hg))
  clear o_W_4
  have o_G_5 := om4.keep (fun g hg => hb5.block g (om4.lt g hg))
  clear om4
  go_wp2_with fail
  refine (LimboNew_impl _).mono ?_
  rintro e w6 ⟨v6, t6, rfl, oc6, fc6, hb6⟩
  have hB6 := hB5.trans (hb6.mono hB5.size)
  have o_W_6 := o_W_5.keep (fun g hg => hb6.block g (o_W_5.lt g hg))
  clear o_W_5
  have o_G_6 := o_G_5.keep (fun g hg => hb6.block g (o_G_5.lt g hg))
  clear o_G_5
  go_wp2_with fail
  refine (eqLListS_ct _ _ _ _ _ _ oc6.rd' o_W_6.rd' (by decide)).mono ?_
  rintro e w7 ⟨rfl, hb7⟩
  have hB7 := hB6.trans (hb7.mono hB6.size)
  have o_W_7 := o_W_6.keep (fun g hg => hb7.block g (o_W_6.lt g hg))
  clear o_W_6
  have o_G_7 := o_G_6.keep (fun g hg => hb7.block g (o_G_6.lt g hg))
  clear o_G_6
  have o_H_7 := oc6.keep (fun g hg => hb7.block g (oc6.lt g hg))
  go_wp2_with fail
  refine (heldLListS_ct _ _ _ _ _ o_G_7.rd' (by decide) (by decide)).mono ?_
  rintro e w8 ⟨rfl, hb8⟩
  have hB8 := hB7.trans (hb8.mono hB7.size)
  have o_W_8 := o_W_7.keep (fun g hg => hb8.block g (o_W_7.lt g hg))
  clear o_W_7
  have o_G_8 := o_G_7.keep (fun g hg => hb8.block g (o_G_7.lt g hg))
  clear o_G_7
  have o_H_8 := o_H_7.keep (fun g hg => hb8.block g (o_H_7.lt g hg))
  clear o_H_7
  go_wp2_with fail
  go_ret
  exact ⟨rfl, hB8⟩
end Go.Proofs.Ytcnnjcbcbpfcgaa
