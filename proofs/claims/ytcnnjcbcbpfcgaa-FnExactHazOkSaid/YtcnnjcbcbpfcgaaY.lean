/-
  The laws FnExactHazOk, FnExactHazAt and FnExactHazNew, walked.
-/
import Derived.Test.YtcnnjcbcbpfcgaaZ
import Derived.Test.YtcnnjcbcbpfcgaaJ
namespace Go.Proofs.Ytcnnjcbcbpfcgaa
open Go.RowKit

set_option maxRecDepth 100000 in
set_option maxHeartbeats 4000000 in
theorem FnExactHazOk_law (w : World) (v : Value) (z : List Int) (h : RdL FI w w.heap.size v z) :
    Calls Try.prog 10 #[v] w fun e w' => e = .returned (.bool true) ∧ Below w.heap.size w w' := by
  obtain ⟨A, c, hv, q1, q2, _⟩ := id h
  have hlt0 : z.length ≤ 9223372036854775807 := by unfold maxLen at q2; omega
  subst hv
  clear q1 q2
  by_cases hs : z.length ≤ 1048576
  case neg =>
    go_enter Try.func10, Try.ntmps10
    go_wp2
    go_ret
    exact ⟨rfl, Below.refl _ _⟩
  go_enter Try.func10, Try.ntmps10
  have hB0 : Below w.heap.size w w := Below.refl _ _
  go_wp2_with fail
  refine (toIntS_ct _ _ z (rd_up h hB0) (by omega)).mono ?_
  rintro e w1 ⟨rfl, oc1, hb1⟩
  have hB1 := hB0.trans (hb1.mono hB0.size)
  go_wp2_with fail
  refine (HazOk_spec _ _ z  oc1.rd').mono ?_
  rintro e w2 ⟨rfl, hb2⟩
  have hB2 := hB1.trans (hb2.mono hB1.size)
  have o_t1_2 := oc1.keep (fun g hg => hb2.block g (foot_lt oc1 g (mem_foot1.2 hg)))
  go_wp2_with fail
  refine (toIntS_ct _ _ z (rd_up h hB2) (by omega)).mono ?_
  rintro e w3 ⟨rfl, oc3, hb3⟩
  have hB3 := hB2.trans (hb3.mono hB2.size)
  have o_t1_3 := o_t1_2.keep (fun g hg => hb3.block g (foot_lt o_t1_2 g (mem_foot1.2 hg)))
  clear o_t1_2
  go_wp2_with fail
  refine (HazOk_impl _ _ z  oc3.rd').mono ?_
  rintro e w4 ⟨rfl, hb4⟩
  have hB4 := hB3.trans (hb4.mono hB3.size)
  have o_t1_4 := o_t1_3.keep (fun g hg => hb4.block g (foot_lt o_t1_3 g (mem_foot1.2 hg)))
  clear o_t1_3
  have o_x0_4 := oc3.keep (fun g hg => hb4.block g (foot_lt oc3 g (mem_foot1.2 hg)))
  go_wp2_with fail
  refine (toIntS_ct _ _ z (rd_up h hB4) (by omega)).mono ?_
  rintro e w5 ⟨rfl, oc5, hb5⟩
  have hB5 := hB4.trans (hb5.mono hB4.size)
  have o_t1_5 := o_t1_4.keep (fun g hg => hb5.block g (foot_lt o_t1_4 g (mem_foot1.2 hg)))
  clear o_t1_4
  have o_x0_5 := o_x0_4.keep (fun g hg => hb5.block g (foot_lt o_x0_4 g (mem_foot1.2 hg)))
  clear o_x0_4
  go_wp2_with fail
  refine (eqIntS_ct _ _ _ _ o_x0_5.rd' oc5.rd' (by omega)).mono ?_
  rintro e w6 ⟨rfl, hb6⟩
  have hB6 := hB5.trans (hb6.mono hB5.size)
  have o_t1_6 := o_t1_5.keep (fun g hg => hb6.block g (foot_lt o_t1_5 g (mem_foot1.2 hg)))
  clear o_t1_5
  have o_x0_6 := o_x0_5.keep (fun g hg => hb6.block g (foot_lt o_x0_5 g (mem_foot1.2 hg)))
  clear o_x0_5
  have o_t2_6 := oc5.keep (fun g hg => hb6.block g (foot_lt oc5 g (mem_foot1.2 hg)))
  go_wp2_with fail
  go_ret
  exact ⟨rfl, hB6⟩

set_option maxRecDepth 100000 in
set_option maxHeartbeats 4000000 in
theorem FnExactHazAt_law (w : World) (v : Value) (z : List Int) (wk : Int) (h : RdL FI w w.heap.size v z) :
    Calls Try.prog 11 #[v, .int .i64 wk] w fun e w' => e = .returned (.bool true) ∧ Below w.heap.size w w' := by
  obtain ⟨A, c, hv, q1, q2, _⟩ := id h
  have hlt0 : z.length ≤ 9223372036854775807 := by unfold maxLen at q2; omega
  subst hv
  clear q1 q2
  by_cases hs : z.length ≤ 1048576
  case neg =>
    go_enter Try.func11, Try.ntmps11
    go_wp2
    go_ret
    exact ⟨rfl, Below.refl _ _⟩
  go_enter Try.func11, Try.ntmps11
  have hB0 : Below w.heap.size w w := Below.refl _ _
  go_wp2_with fail
  refine (toIntS_ct _ _ z (rd_up h hB0) (by omega)).mono ?_
  rintro e w1 ⟨rfl, oc1, hb1⟩
  have hB1 := hB0.trans (hb1.mono hB0.size)
  go_wp2_with fail
  refine (HazAt_spec _ _ z _ oc1.rd').mono ?_
  rintro e w2 ⟨rfl, hb2⟩
  have hB2 := hB1.trans (hb2.mono hB1.size)
  have o_t1_2 := oc1.keep (fun g hg => hb2.block g (foot_lt oc1 g (mem_foot1.2 hg)))
  go_wp2_with fail
  refine (toIntS_ct _ _ z (rd_up h hB2) (by omega)).mono ?_
  rintro e w3 ⟨rfl, oc3, hb3⟩
  have hB3 := hB2.trans (hb3.mono hB2.size)
  have o_t1_3 := o_t1_2.keep (fun g hg => hb3.block g (foot_lt o_t1_2 g (mem_foot1.2 hg)))
  clear o_t1_2
  go_wp2_with fail
  refine (HazAt_impl _ _ z _ oc3.rd').mono ?_
  rintro e w4 ⟨rfl, hb4⟩
  have hB4 := hB3.trans (hb4.mono hB3.size)
  have o_t1_4 := o_t1_3.keep (fun g hg => hb4.block g (foot_lt o_t1_3 g (mem_foot1.2 hg)))
  clear o_t1_3
  have o_x0_4 := oc3.keep (fun g hg => hb4.block g (foot_lt oc3 g (mem_foot1.2 hg)))
  go_wp2_with fail
  refine (toIntS_ct _ _ z (rd_up h hB4) (by omega)).mono ?_
  rintro e w5 ⟨rfl, oc5, hb5⟩
  have hB5 := hB4.trans (hb5.mono hB4.size)
  have o_t1_5 := o_t1_4.keep (fun g hg => hb5.block g (foot_lt o_t1_4 g (mem_foot1.2 hg)))
  clear o_t1_4
  have o_x0_5 := o_x0_4.keep (fun g hg => hb5.block g (foot_lt o_x0_4 g (mem_foot1.2 hg)))
  clear o_x0_4
  go_wp2_with fail
  refine (eqIntS_ct _ _ _ _ o_x0_5.rd' oc5.rd' (by omega)).mono ?_
  rintro e w6 ⟨rfl, hb6⟩
  have hB6 := hB5.trans (hb6.mono hB5.size)
  have o_t1_6 := o_t1_5.keep (fun g hg => hb6.block g (foot_lt o_t1_5 g (mem_foot1.2 hg)))
  clear o_t1_5
  have o_x0_6 := o_x0_5.keep (fun g hg => hb6.block g (foot_lt o_x0_5 g (mem_foot1.2 hg)))
  clear o_x0_5
  have o_t2_6 := oc5.keep (fun g hg => hb6.block g (foot_lt oc5 g (mem_foot1.2 hg)))
  go_wp2_with fail
  go_ret
  exact ⟨rfl, hB6⟩

set_option maxHeartbeats 400000 in
theorem HazNew_spec (w : World) : Calls Try.prog 22 #[] w fun e w' => ∃ v, e = .returned v ∧ OwL FI 3 w' v [0, 0, 0] ∧ (∀ g ∈ foot1 v, w.heap.size ≤ g) ∧ Below w.heap.size w w' := by
  have hmk : ∀ w, (Instr.makeSlice 30 (.int .i64 3) (.int .i64 3)).run Try.prog w = .ok (.slice (some ⟨w.heap.size, 0, none⟩) 3 3) (w.alloc (.cells (madeCells #[.int .i64 0] (3 * FI.n)) 3)) := run_make_flat (P := Try.prog) FI 30 3 (.int .i64 0) 8 Try.underlying30 Try.infoInt 3 (by omega) (by omega)
  go_enter Try.func22, Try.ntmps22
  go_wp2
  go_ret
  exact ⟨_, rfl, OwL.made FI #[.int .i64 0] rfl 3 (by simp [maxLen]) w 3, by simp [foot1, Value.ownBlock], (Below.refl _ _).alloc (Nat.le_refl _) _⟩

set_option maxHeartbeats 400000 in
theorem HazNew_impl (w : World) : Calls Try.prog 23 #[] w fun e w' => ∃ v, e = .returned v ∧ OwL FI 3 w' v [0, 0, 0] ∧ (∀ g ∈ foot1 v, w.heap.size ≤ g) ∧ Below w.heap.size w w' := by
  have hmk : ∀ w, (Instr.makeSlice 30 (.int .i64 3) (.int .i64 3)).run Try.prog w = .ok (.slice (some ⟨w.heap.size, 0, none⟩) 3 3) (w.alloc (.cells (madeCells #[.int .i64 0] (3 * FI.n)) 3)) := run_make_flat (P := Try.prog) FI 30 3 (.int .i64 0) 8 Try.underlying30 Try.infoInt 3 (by omega) (by omega)
  go_enter Try.func23, Try.ntmps23
  go_wp2
  go_ret
  exact ⟨_, rfl, OwL.made FI #[.int .i64 0] rfl 3 (by simp [maxLen]) w 3, by simp [foot1, Value.ownBlock], (Below.refl _ _).alloc (Nat.le_refl _) _⟩

set_option maxHeartbeats 1000000 in
theorem FnExactHazNew_law (w : World) : Calls Try.prog 6 #[] w fun e w' => e = .returned (.bool true) ∧ Below w.heap.size w w' := by
  go_enter Try.func6, Try.ntmps6
  go_wp2_with fail
  refine (HazNew_spec _).mono ?_
  rintro e w1 ⟨v1, rfl, o1, f1, hb1⟩
  go_wp2_with fail
  refine (HazNew_impl _).mono ?_
  rintro e w2 ⟨v2, rfl, o2, f2, hb2⟩
  have o12 := o1.keep (fun g hg => hb2.block g (foot_lt o1 g (mem_foot1.2 hg)))
  go_wp2_with fail
  refine (eqIntS_ct _ _ _ _ o2.rd' o12.rd' (by decide)).mono ?_
  rintro e w3 ⟨rfl, hb3⟩
  have o13 := o12.keep (fun g hg => hb3.block g (foot_lt o12 g (mem_foot1.2 hg)))
  have o23 := o2.keep (fun g hg => hb3.block g (foot_lt o2 g (mem_foot1.2 hg)))
  go_wp2_with fail
  refine (markIntS_ct _ _ _ _ o23 (by decide) (by decide)).mono ?_
  rintro e w4 ⟨rfl, o24, hg4, _⟩
  have hc4 := Chg.of_grown hg4
  have o14 := o13.chg hc4 (fun g hg hm => by have a := foot_lt o1 g hg; have b := f2 g hm; omega)
  go_wp2_with fail
  refine (heldIntS_ct _ _ _ _ o24.rd' (by decide) (by decide)).mono ?_
  rintro e w5 ⟨rfl, hb5⟩
  have o15 := o14.keep (fun g hg => hb5.block g (foot_lt o14 g (mem_foot1.2 hg)))
  have o25 := o24.keep (fun g hg => hb5.block g (foot_lt o24 g (mem_foot1.2 hg)))
  go_wp2_with fail
  refine (HazNew_impl _).mono ?_
  rintro e w6 ⟨v6, rfl, o6, f6, hb6⟩
  have o16 := o15.keep (fun g hg => hb6.block g (foot_lt o15 g (mem_foot1.2 hg)))
  have o26 := o25.keep (fun g hg => hb6.block g (foot_lt o25 g (mem_foot1.2 hg)))
  go_wp2_with fail
  refine (eqIntS_ct _ _ _ _ o6.rd' o16.rd' (by decide)).mono ?_
  rintro e w7 ⟨rfl, hb7⟩
  have o27 := o26.keep (fun g hg => hb7.block g (foot_lt o26 g (mem_foot1.2 hg)))
  go_wp2_with fail
  refine (heldIntS_ct _ _ _ _ o27.rd' (by decide) (by decide)).mono ?_
  rintro e w8 ⟨rfl, hb8⟩
  go_wp2_with fail
  go_ret
  have h2 : Below w.heap.size w w2 := hb1.trans (hb2.mono hb1.size)
  have h3 : Below w.heap.size w w3 := h2.trans (hb3.mono h2.size)
  have h4 : Below w.heap.size w w4 := h3.trans (hc4.below h3.size (fun g hg => Nat.le_trans hb1.size (f2 g hg)))
  have h5 : Below w.heap.size w w5 := h4.trans (hb5.mono h4.size)
  have h6 : Below w.heap.size w w6 := h5.trans (hb6.mono h5.size)
  have h7 : Below w.heap.size w w7 := h6.trans (hb7.mono h6.size)
  exact ⟨rfl, h7.trans (hb8.mono h7.size)⟩
end Go.Proofs.Ytcnnjcbcbpfcgaa
