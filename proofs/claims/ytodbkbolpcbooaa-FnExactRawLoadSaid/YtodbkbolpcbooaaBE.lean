/-
  Memories: handles, the states of slots.
-/
import Derived.Test.YtodbkbolpcbooaaT
import Derived.Test.YtodbkbolpcbooaaL
import Derived.Deep.QuietTactic
import Derived.BigQuiet
import Derived.Deep.LoopGhost
import Derived.Deep.RegionHeld3
import Derived.Test.YtodbkbolpcbooaaN
import Derived.Test.YtodbkbolpcbooaaA
import Derived.WalkSpells
import Derived.Laws.Cover3
import Derived.Test.YtodbkbolpcbooaaBD
namespace Go.Proofs.Ytodbkbolpcbooaa
open Go.RowKit
set_option maxHeartbeats 400000 in
theorem HandleOk_impl (h : Int) (w : World) : Calls Try.prog 112 #[.int .i64 h] w fun e w' => e = .returned (.bool (handleOkB h)) ∧ w = w' := by
  by_cases h1 : 32 ≤ h
  · by_cases h2 : h ≤ 223
    · go_enter Try.func112, Try.ntmps112
      go_wp2
      go_ret
      exact ⟨ret_bool (by simp [handleOkB, h1, h2]), rfl⟩
    · go_enter Try.func112, Try.ntmps112
      go_wp2
      go_ret
      exact ⟨ret_bool (by simp [handleOkB]; omega), rfl⟩
  · go_enter Try.func112, Try.ntmps112
    go_wp2
    go_ret
    exact ⟨ret_bool (by simp [handleOkB]; omega), rfl⟩
set_option maxHeartbeats 400000 in
theorem HandleOk_spec (h : Int) (w : World) : Calls Try.prog 181 #[.int .i64 h] w fun e w' => e = .returned (.bool (handleOkB h)) ∧ w = w' := by
  by_cases h1 : 32 ≤ h
  · by_cases h2 : h ≤ 223
    · go_enter Try.func181, Try.ntmps181
      go_wp2
      go_ret
      exact ⟨ret_bool (by simp [handleOkB, h1, h2]), rfl⟩
    · go_enter Try.func181, Try.ntmps181
      go_wp2
      go_ret
      exact ⟨ret_bool (by simp [handleOkB]; omega), rfl⟩
  · go_enter Try.func181, Try.ntmps181
    go_wp2
    go_ret
    exact ⟨ret_bool (by simp [handleOkB]; omega), rfl⟩
theorem handleOk_bd {h : Int} (k : handleOkB h = true) : 32 ≤ h ∧ h ≤ 223 ∧ h % 32 < 24 ∧ inB 0 23 (h % 32) = true ∧ h.tmod 32 = h % 32 ∧ h.tdiv 32 = h / 32 := by
  unfold handleOkB at k
  simp only [Bool.and_eq_true, decide_eq_true_eq] at k
  obtain ⟨⟨a, b⟩, c⟩ := k
  exact ⟨a, b, c, inB_iff.2 ⟨by omega, by omega⟩, Int.tmod_eq_emod_of_nonneg (by omega), Int.tdiv_eq_ediv_of_nonneg (by omega)⟩
set_option maxHeartbeats 400000 in
theorem HandleSlot_spec (h : Int) (w : World) (k : handleOkB h = true) : Calls Try.prog 183 #[.int .i64 h] w fun e w' => e = .returned (.int .i64 (h % 32)) ∧ w = w' := by
  obtain ⟨a, b, _, _, c, _⟩ := handleOk_bd k
  have HC := Hid.mk_ c
  clear c
  go_enter Try.func183, Try.ntmps183
  go_wp2_with (go_at_call 181; refine (HandleOk_spec _ _).mono ?_; rw [k]; rintro e w1 ⟨rfl, rfl⟩)
  go_ret
  exact ⟨ret_i64 (by first | rfl | rw [HC.out]), rfl⟩
theorem state_cls {x : Mem} {s : Int} (h : stateB x s ≠ 0) : ¬ classInB x.Heap s < 0 := fun k => h (if_pos k)
theorem state_bd (x : Mem) (s : Int) : stateB x s = 0 ∨ stateB x s = 1 ∨ stateB x s = 2 ∨ stateB x s = 3 := by
  unfold stateB
  repeat' split
  all_goals simp
end Go.Proofs.Ytodbkbolpcbooaa
