/-
  The walks of the laws FnExactStepsOf and FnExactSubNew.
-/
import Derived.Test.YtcnnjcbcbpfcgaaL
import Derived.Test.YtcnnjcbcbpfcgaaM
import Derived.Lib.SmallJoins
namespace Go.Proofs.Ytcnnjcbcbpfcgaa
open Go.ChangeShapes Go.WideShapes Go.ChangeAt Go.RowKit Go.Joins

theorem ret_i64 {a b : Int} (h : a = b) : Ending.returned (.int .i64 a) = .returned (.int .i64 b) := by rw [h]
def stepsI (k r : Int) : Int :=
  if 0 ≤ r ∧ r ≤ 24 then (if k = 1 then 4 else if k = 2 then 2 else if k = 3 then 5 else if k = 4 then 2 + 5 * r else if k = 5 then 3 else 0) else 0

set_option maxHeartbeats 1000000 in
theorem steps_spec (k r : Int) (w : World) : Calls Try.prog 33 #[.int .i64 k, .int .i64 r] w fun e w' => e = .returned (.int .i64 (stepsI k r)) ∧ Below w.heap.size w w' := by
  by_cases h1 : 0 ≤ r
  · by_cases h2 : r ≤ 24
    · by_cases hc : k = 1 ∨ k = 2 ∨ k = 3 ∨ k = 4 ∨ k = 5
      · rcases hc with rfl | rfl | rfl | rfl | rfl <;>
          (go_enter Try.func33, Try.ntmps33; go_wp2; go_ret; exact ⟨ret_i64 (by simp [stepsI, h1, h2]; try omega), Below.refl _ _⟩)
      · have n1 : (k == 1) = false := by simp; omega
        have n2 : (k == 2) = false := by simp; omega
        have n3 : (k == 3) = false := by simp; omega
        have n4 : (k == 4) = false := by simp; omega
        have n5 : (k == 5) = false := by simp; omega
        go_enter Try.func33, Try.ntmps33
        go_wp2
        go_ret
        exact ⟨ret_i64 (by simp [stepsI]; omega), Below.refl _ _⟩
    · go_enter Try.func33, Try.ntmps33
      go_wp2
      go_ret
      exact ⟨ret_i64 (by simp [stepsI]; omega), Below.refl _ _⟩
  · go_enter Try.func33, Try.ntmps33
    go_wp2
    go_ret
    exact ⟨ret_i64 (by simp [stepsI]; omega), Below.refl _ _⟩

set_option maxHeartbeats 1000000 in
theorem steps_impl (k r : Int) (w : World) : Calls Try.prog 34 #[.int .i64 k, .int .i64 r] w fun e w' => e = .returned (.int .i64 (stepsI k r)) ∧ Below w.heap.size w w' := by
  by_cases h1 : 0 ≤ r
  · by_cases h2 : r ≤ 24
    · by_cases hc : k = 1 ∨ k = 2 ∨ k = 3 ∨ k = 4 ∨ k = 5
      · rcases hc with rfl | rfl | rfl | rfl | rfl <;>
          (go_enter Try.func34, Try.ntmps34; go_wp2; go_ret; exact ⟨ret_i64 (by simp [stepsI, h1, h2]; try omega), Below.refl _ _⟩)
      · have n1 : (k == 1) = false := by simp; omega
        have n2 : (k == 2) = false := by simp; omega
        have n3 : (k == 3) = false := by simp; omega
        have n4 : (k == 4) = false := by simp; omega
        have n5 : (k == 5) = false := by simp; omega
        go_enter Try.func34, Try.ntmps34
        go_wp2
        go_ret
        exact ⟨ret_i64 (by simp [stepsI]; omega), Below.refl _ _⟩
    · go_enter Try.func34, Try.ntmps34
      go_wp2
      go_ret
      exact ⟨ret_i64 (by simp [stepsI]; omega), Below.refl _ _⟩
  · go_enter Try.func34, Try.ntmps34
    go_wp2
    go_ret
    exact ⟨ret_i64 (by simp [stepsI]; omega), Below.refl _ _⟩

set_option maxHeartbeats 400000 in
theorem FnExactStepsOf_law (k r : Int) (w : World) : Calls Try.prog 9 #[.int .i64 k, .int .i64 r] w fun e w' => e = .returned (.bool true) ∧ Below w.heap.size w w' := by
  go_enter Try.func9, Try.ntmps9
  go_wp2_with (first
    | (go_at_call 33; refine (steps_spec _ _ _).mono ?_; rintro e w1 ⟨rfl, hb1⟩; obtain ⟨os1, d1, rfl⟩ := below_grows hb1; clear hb1)
    | (go_at_call 34; refine (steps_impl _ _ _).mono ?_; rintro e w2 ⟨rfl, hb2⟩; obtain ⟨os2, d2, rfl⟩ := below_grows hb2; clear hb2))
  go_ret
  exact ⟨rfl, by repeat (first | exact Below.refl _ _ | refine Below.alloc ?_ (by simp <;> omega) _ | refine below_grow_of ?_ (by simp <;> omega) _ _ | refine Below.drew ?_)⟩


set_option maxHeartbeats 2000000 in
theorem eqSub_ct (a0 a1 a2 a3 a4 a5 a6 a7 a8 : Int) (a9 : Bool) (w : World) : Calls Try.prog 29 #[.agg #[.int .i64 a0, .int .i64 a1, .int .i64 a2, .int .i64 a3, .int .i64 a4, .int .i64 a5, .int .i64 a6, .int .i64 a7, .int .i64 a8, .bool a9], .agg #[.int .i64 a0, .int .i64 a1, .int .i64 a2, .int .i64 a3, .int .i64 a4, .int .i64 a5, .int .i64 a6, .int .i64 a7, .int .i64 a8, .bool a9]] w fun e w' => e = .returned (.bool true) ∧ Below w.heap.size w w' := by
  go_enter Try.func29, Try.ntmps29
  go_wp2
  go_ret
  exact ⟨rfl, by repeat (first | exact Below.refl _ _ | refine Below.alloc ?_ (by simp <;> omega) _ | refine below_grow_of ?_ (by simp <;> omega) _ _ | refine Below.drew ?_)⟩

set_option maxHeartbeats 1000000 in
theorem subNew_spec (k r : Int) (w : World) : Calls Try.prog 27 #[.int .i64 k, .int .i64 r] w fun e w' => e = .returned (.agg #[.int .i64 k, .int .i64 r, .int .i64 0, .int .i64 0, .int .i64 0, .int .i64 0, .int .i64 0, .int .i64 0, .int .i64 0, .bool false]) ∧ Below w.heap.size w w' := by
  go_enter Try.func27, Try.ntmps27
  go_wp2
  refine bodyPost_ret (v := .agg #[.int .i64 k, .int .i64 r, .int .i64 0, .int .i64 0, .int .i64 0, .int .i64 0, .int .i64 0, .int .i64 0, .int .i64 0, .bool false]) (by simp [results, Try.results27, go_sem]) rfl ⟨rfl, ?_⟩
  repeat (first | exact Below.refl _ _ | refine Below.alloc ?_ (by simp <;> omega) _ | refine below_grow_of ?_ (by simp <;> omega) _ _ | refine Below.drew ?_)

set_option maxHeartbeats 1000000 in
theorem subNew_impl (k r : Int) (w : World) : Calls Try.prog 28 #[.int .i64 k, .int .i64 r] w fun e w' => e = .returned (.agg #[.int .i64 k, .int .i64 r, .int .i64 0, .int .i64 0, .int .i64 0, .int .i64 0, .int .i64 0, .int .i64 0, .int .i64 0, .bool false]) ∧ Below w.heap.size w w' := by
  go_enter Try.func28, Try.ntmps28
  go_wp2
  refine bodyPost_ret (v := .agg #[.int .i64 k, .int .i64 r, .int .i64 0, .int .i64 0, .int .i64 0, .int .i64 0, .int .i64 0, .int .i64 0, .int .i64 0, .bool false]) (by simp [results, Try.results28, go_sem]) rfl ⟨rfl, ?_⟩
  repeat (first | exact Below.refl _ _ | refine Below.alloc ?_ (by simp <;> omega) _ | refine below_grow_of ?_ (by simp <;> omega) _ _ | refine Below.drew ?_)

set_option maxHeartbeats 1000000 in
theorem FnExactSubNew_law (k r : Int) (w : World) : Calls Try.prog 7 #[.int .i64 k, .int .i64 r] w fun e w' => e = .returned (.bool true) ∧ Below w.heap.size w w' := by
  go_enter Try.func7, Try.ntmps7
  go_wp2_with (first
    | (go_at_call 27; refine (subNew_spec _ _ _).mono ?_; rintro e w1 ⟨rfl, hb1⟩; obtain ⟨os1, d1, rfl⟩ := below_grows hb1; clear hb1)
    | (go_at_call 28; refine (subNew_impl _ _ _).mono ?_; rintro e w2 ⟨rfl, hb2⟩; obtain ⟨os2, d2, rfl⟩ := below_grows hb2; clear hb2)
    | (go_at_call 29; refine (eqSub_ct _ _ _ _ _ _ _ _ _ _ _ ).mono ?_; rintro e w3 ⟨rfl, hb3⟩; obtain ⟨os3, d3, rfl⟩ := below_grows hb3; clear hb3))
  go_ret
  exact ⟨rfl, by repeat (first | exact Below.refl _ _ | refine Below.alloc ?_ (by simp <;> omega) _ | refine below_grow_of ?_ (by simp <;> omega) _ _ | refine Below.drew ?_)⟩
end Go.Proofs.Ytcnnjcbcbpfcgaa
