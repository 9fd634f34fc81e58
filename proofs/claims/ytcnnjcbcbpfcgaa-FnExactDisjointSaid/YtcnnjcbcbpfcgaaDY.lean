/-
  FnExactDisjoint, walked.
-/
import Derived.Test.YtcnnjcbcbpfcgaaD
namespace Go.Proofs.Ytcnnjcbcbpfcgaa
open Go.RowKit

set_option maxRecDepth 100000 in
set_option maxHeartbeats 4000000 in
theorem FnExactDisjoint_law (w : World) (v : Value) (l : List Span) (h : RdL FSpan w w.heap.size v l) :
    Calls Try.prog 14 #[v] w fun e w' => e = .returned (.bool true) ∧ Below w.heap.size w w' := by
  obtain ⟨A, c, hv, q1, q2, _⟩ := id h
  have hlt0 : l.length ≤ 9223372036854775807 := by unfold maxLen at q2; omega
  subst hv
  clear q1 q2
  by_cases hs : l.length ≤ 1048576
  case neg =>
    have HL := Hid.mk_ (leftOf_neg hs)
    go_enter Try.func14, Try.ntmps14
    go_wp2_with (go_at_call 50; refine (szSpanS_ct _ A l.length c 1048576 hlt0 (by decide)).mono ?_; rw [HL.out]; rintro e w1 ⟨rfl, hb1⟩)
    go_ret
    exact ⟨rfl, hb1⟩
  have HL := Hid.mk_ (leftOf_pos hs)
  go_enter Try.func14, Try.ntmps14
  have hB0 : Below w.heap.size w w := Below.refl _ _
  go_wp2_with fail
  refine (szSpanS_ct _ A l.length c 1048576 hlt0 (by decide)).mono ?_
  rintro e w1 ⟨rfl, hb1⟩
  have hB1 := hB0.trans (hb1.mono hB0.size)
  rw [HL.out]
  go_wp2_with fail
  refine (toSpanS_ct _ _ l (rd_up h hB1) hs).mono ?_
  rintro e w2 ⟨rfl, oc2, hb2⟩
  have hB2 := hB1.trans (hb2.mono hB1.size)
  go_wp2_with fail
  refine (Disjoint_spec _ _ l  oc2.rd' (by omega)).mono ?_
  rintro e w3 ⟨rfl, hb3⟩
  have hB3 := hB2.trans (hb3.mono hB2.size)
  have o_t1_3 := oc2.keep (fun g hg => hb3.block g (foot_lt oc2 g (mem_foot1.2 hg)))
  go_wp2_with fail
  refine (toSpanS_ct _ _ l (rd_up h hB3) hs).mono ?_
  rintro e w4 ⟨rfl, oc4, hb4⟩
  have hB4 := hB3.trans (hb4.mono hB3.size)
  have o_t1_4 := o_t1_3.keep (fun g hg => hb4.block g (foot_lt o_t1_3 g (mem_foot1.2 hg)))
  clear o_t1_3
  go_wp2_with fail
  refine (Disjoint_impl _ _ l  oc4.rd' (by omega)).mono ?_
  rintro e w5 ⟨rfl, hb5⟩
  have hB5 := hB4.trans (hb5.mono hB4.size)
  have o_t1_5 := o_t1_4.keep (fun g hg => hb5.block g (foot_lt o_t1_4 g (mem_foot1.2 hg)))
  clear o_t1_4
  have o_x0_5 := oc4.keep (fun g hg => hb5.block g (foot_lt oc4 g (mem_foot1.2 hg)))
  go_wp2_with fail
  refine (toSpanS_ct _ _ l (rd_up h hB5) hs).mono ?_
  rintro e w6 ⟨rfl, oc6, hb6⟩
  have hB6 := hB5.trans (hb6.mono hB5.size)
  have o_t1_6 := o_t1_5.keep (fun g hg => hb6.block g (foot_lt o_t1_5 g (mem_foot1.2 hg)))
  clear o_t1_5
  have o_x0_6 := o_x0_5.keep (fun g hg => hb6.block g (foot_lt o_x0_5 g (mem_foot1.2 hg)))
  clear o_x0_5
  go_wp2_with fail
  refine (eqSpanS_ct _ _ _ _ o_x0_6.rd' oc6.rd' (by omega)).mono ?_
  rintro e w7 ⟨rfl, hb7⟩
  have hB7 := hB6.trans (hb7.mono hB6.size)
  have o_t1_7 := o_t1_6.keep (fun g hg => hb7.block g (foot_lt o_t1_6 g (mem_foot1.2 hg)))
  clear o_t1_6
  have o_x0_7 := o_x0_6.keep (fun g hg => hb7.block g (foot_lt o_x0_6 g (mem_foot1.2 hg)))
  clear o_x0_6
  have o_t2_7 := oc6.keep (fun g hg => hb7.block g (foot_lt oc6 g (mem_foot1.2 hg)))
  go_wp2_with fail
  go_ret
  exact ⟨rfl, hB7⟩
end Go.Proofs.Ytcnnjcbcbpfcgaa
