/-
  FnExactTruthOf, walked.
-/
import Derived.Test.YtdepckmjgpkjmaaT
import Derived.Test.YtdepckmjgpkjmaaL
import Derived.Deep.QuietTactic
import Derived.BigQuiet
import Derived.Deep.LoopGhost
import Derived.Deep.RegionHeld3
import Derived.Test.YtdepckmjgpkjmaaN
import Derived.Test.YtdepckmjgpkjmaaA
import Derived.WalkSpells
import Derived.Laws.Cover3
import Derived.Test.YtdepckmjgpkjmaaTI
namespace Go.Proofs.Ytdepckmjgpkjmaa
open Go.RowKit

set_option maxRecDepth 100000 in
set_option maxHeartbeats 4000000 in
theorem FnExactTruthOf_law (w : World) (v : Value) (l : List Ev) (h : RdL FEv w w.heap.size v l) :
    Calls Try.prog 4 #[v] w fun e w' => e = .returned (.bool true) ∧ Below w.heap.size w w' := by
  obtain ⟨A, c, hv, q1, q2, _⟩ := id h
  have hlt0 : l.length ≤ 9223372036854775807 := by unfold maxLen at q2; omega
  subst hv
  clear q1 q2
  by_cases hs : l.length ≤ 1048576
  case neg =>
    have HL := Hid.mk_ (leftOf_neg hs)
    go_enter Try.func4, Try.ntmps4
    go_wp2_with (go_at_call 9; refine (szEvS_ct _ A l.length c 1048576 hlt0 (by decide)).mono ?_; rw [HL.out]; rintro e w1 ⟨rfl, hb1⟩)
    go_ret
    exact ⟨rfl, hb1⟩
  have HL := Hid.mk_ (leftOf_pos hs)
  go_enter Try.func4, Try.ntmps4
  have hB : Below w.heap.size w w := Below.refl _ _
  go_wp2_with fail
  refine (szEvS_ct _ A l.length c 1048576 hlt0 (by decide)).mono ?_
  rw [HL.out]
  rintro e w1 ⟨rfl, hb⟩
  replace hB := hB.trans (hb.mono hB.size)
  have sz := hb.size
  clear hb
  go_wp2_with fail
  refine (toEvS_ct _ _ l (rd_up h hB) hs).mono ?_
  rintro e w2 ⟨rfl, o_t, hb⟩
  replace hB := hB.trans (hb.mono hB.size)
  have sz := hb.size
  clear hb
  go_wp2_with fail
  refine (TruthOf_spec _ _ l o_t.rd').mono ?_
  rintro e w3 ⟨rfl, hb⟩
  have o_t := o_t.step0 hb
  replace hB := hB.trans (hb.mono hB.size)
  have sz := hb.size
  clear hb
  go_wp2_with fail
  refine (toEvS_ct _ _ l (rd_up h hB) hs).mono ?_
  rintro e w4 ⟨rfl, o_x, hb⟩
  replace o_t := o_t.step0 hb
  replace hB := hB.trans (hb.mono hB.size)
  have sz := hb.size
  clear hb
  go_wp2_with fail
  refine (TruthOf_impl _ _ l o_x.rd').mono ?_
  rintro e w5 ⟨rfl, hb⟩
  replace o_t := o_t.step0 hb
  have o_x := o_x.step0 hb
  replace hB := hB.trans (hb.mono hB.size)
  have sz := hb.size
  clear hb
  go_wp2_with fail
  refine (toEvS_ct _ _ l (rd_up h hB) hs).mono ?_
  rintro e w6 ⟨rfl, o_y, hb⟩
  replace o_t := o_t.step0 hb
  replace o_x := o_x.step0 hb
  replace hB := hB.trans (hb.mono hB.size)
  have sz := hb.size
  clear hb
  go_wp2_with fail
  refine (eqEvS_ct _ _ _ l o_x.rd' o_y.rd' (by omega)).mono ?_
  rintro e w7 ⟨rfl, hb⟩
  replace o_t := o_t.step0 hb
  replace o_x := o_x.step0 hb
  have o_y := o_y.step0 hb
  replace hB := hB.trans (hb.mono hB.size)
  have sz := hb.size
  clear hb
  go_wp2_with fail
  go_ret
  exact ⟨rfl, hB⟩
end Go.Proofs.Ytdepckmjgpkjmaa
