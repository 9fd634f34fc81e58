/-
  The contracts of OpOk.
-/
import Derived.Test.YtcnnjcbcbpfcgaaL
import Derived.Test.YtcnnjcbcbpfcgaaM
import Derived.Lib.SmallJoins
namespace Go.Proofs.Ytcnnjcbcbpfcgaa
open Go.ChangeShapes Go.WideShapes Go.ChangeAt Go.RowKit Go.Joins

theorem ret_bool {a b : Bool} (h : a = b) : Ending.returned (.bool a) = .returned (.bool b) := by rw [h]
def opOkB (k c s v : Int) : Bool :=
  decide (1 ≤ k ∧ k ≤ 7) && (if k = 1 ∨ k = 2 ∨ k = 3 ∨ k = 7 then decide (0 ≤ c ∧ c ≤ 1) else decide (c = 0)) && (if k = 1 then decide (0 ≤ s ∧ s ≤ 100 ∧ 0 ≤ v ∧ v ≤ 65535) else decide (s = 0 ∧ v = 0))

set_option maxHeartbeats 2000000 in
theorem opOk_impl (k c s v : Int) (w : World) : Calls Try.prog 32 #[.agg #[.int .i64 k, .int .i64 c, .int .i64 s, .int .i64 v]] w fun e w' => e = .returned (.bool (opOkB k c s v)) ∧ Below w.heap.size w w' := by
  by_cases hc : k = 1 ∨ k = 2 ∨ k = 3 ∨ k = 4 ∨ k = 5 ∨ k = 6 ∨ k = 7
  · rcases hc with rfl | rfl | rfl | rfl | rfl | rfl | rfl <;>
      (go_enter Try.func32, Try.ntmps32; go_wp2; all_goals (go_ret; exact ⟨ret_bool (by rw [Bool.eq_iff_iff]; simp [opOkB] at *; try omega), by repeat (first | exact Below.refl _ _ | refine Below.alloc ?_ (by simp <;> omega) _ | refine below_grow_of ?_ (by simp <;> omega) _ _ | refine Below.drew ?_)⟩))
  · by_cases h1 : 1 ≤ k
    · go_enter Try.func32, Try.ntmps32
      go_wp2
      all_goals (go_ret; exact ⟨ret_bool (by rw [Bool.eq_iff_iff]; simp [opOkB] at *; try omega), by repeat (first | exact Below.refl _ _ | refine Below.alloc ?_ (by simp <;> omega) _ | refine below_grow_of ?_ (by simp <;> omega) _ _ | refine Below.drew ?_)⟩)
    · go_enter Try.func32, Try.ntmps32
      go_wp2
      all_goals (go_ret; exact ⟨ret_bool (by rw [Bool.eq_iff_iff]; simp [opOkB] at *; try omega), by repeat (first | exact Below.refl _ _ | refine Below.alloc ?_ (by simp <;> omega) _ | refine below_grow_of ?_ (by simp <;> omega) _ _ | refine Below.drew ?_)⟩)

set_option maxHeartbeats 2000000 in
theorem opOk_spec (k c s v : Int) (w : World) : Calls Try.prog 30 #[.agg #[.int .i64 k, .int .i64 c, .int .i64 s, .int .i64 v]] w fun e w' => e = .returned (.bool (opOkB k c s v)) ∧ Below w.heap.size w w' := by
  by_cases hc : k = 1 ∨ k = 2 ∨ k = 3 ∨ k = 4 ∨ k = 5 ∨ k = 6 ∨ k = 7
  · rcases hc with rfl | rfl | rfl | rfl | rfl | rfl | rfl <;>
      (go_enter Try.func30, Try.ntmps30; go_wp2; all_goals (go_ret; exact ⟨ret_bool (by rw [Bool.eq_iff_iff]; simp [opOkB] at *; try omega), by repeat (first | exact Below.refl _ _ | refine Below.alloc ?_ (by simp <;> omega) _ | refine below_grow_of ?_ (by simp <;> omega) _ _ | refine Below.drew ?_)⟩))
  · by_cases h1 : 1 ≤ k
    · go_enter Try.func30, Try.ntmps30
      go_wp2
      all_goals (go_ret; exact ⟨ret_bool (by rw [Bool.eq_iff_iff]; simp [opOkB] at *; try omega), by repeat (first | exact Below.refl _ _ | refine Below.alloc ?_ (by simp <;> omega) _ | refine below_grow_of ?_ (by simp <;> omega) _ _ | refine Below.drew ?_)⟩)
    · go_enter Try.func30, Try.ntmps30
      go_wp2
      all_goals (go_ret; exact ⟨ret_bool (by rw [Bool.eq_iff_iff]; simp [opOkB] at *; try omega), by repeat (first | exact Below.refl _ _ | refine Below.alloc ?_ (by simp <;> omega) _ | refine below_grow_of ?_ (by simp <;> omega) _ _ | refine Below.drew ?_)⟩)
end Go.Proofs.Ytcnnjcbcbpfcgaa
