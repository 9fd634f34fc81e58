/-
  New clocks, limbo lists, hazards: the contracts.
-/
import Derived.Test.YtodbkbolpcbooaaT
import Derived.Test.YtodbkbolpcbooaaL
import Derived.Deep.QuietTactic
import Derived.BigQuiet
import Derived.Deep.LoopGhost
import Derived.Deep.RegionHeld3
import Derived.Test.YtodbkbolpcbooaaN
import Derived.Test.YtodbkbolpcbooaaA
import Derived.WalkSpells
import Derived.Laws.Cover3
import Derived.Test.YtodbkbolpcbooaaEB
import Derived.Test.YtodbkbolpcbooaaEP
import Derived.Test.YtodbkbolpcbooaaB7
namespace Go.Proofs.Ytodbkbolpcbooaa
open Go.RowKit
def pin0 : Pin := ⟨false, 0, false, 0⟩
def newClk : Clock := ⟨0, [pin0, pin0, pin0]⟩

set_option maxHeartbeats 400000 in
theorem ClockNew_impl (w : World) : Calls Try.prog 80 #[] w fun e w' => ∃ H' : HClock, e = .returned (H'.val newClk) ∧ OwClock w' H' newClk ∧ (∀ g ∈ H'.foot, w.heap.size ≤ g) ∧ Below w.heap.size w w' := by
  have hmk : ∀ w, (Instr.makeSlice 36 (.int .i64 3) (.int .i64 3)).run Try.prog w = .ok (.slice (some ⟨w.heap.size, 0, none⟩) 3 3) (w.alloc (.cells (madeCells #[.bool false, .int .i64 0, .bool false, .int .i64 0] (3 * FPin.n)) 120)) := run_make_flat (P := Try.prog) FPin 36 120 (.agg #[.bool false, .int .i64 0, .bool false, .int .i64 0]) 32 Try.underlying36 Try.infoPin 3 (by omega) (by omega)
  go_enter Try.func80, Try.ntmps80
  go_wp2
  have ho := OwL.made FPin #[.bool false, .int .i64 0, .bool false, .int .i64 0] rfl 3 (by simp [maxLen]) (w.alloc (.cells #[.int .i64 0, .slice none 0 0] 38)) 120
  refine bodyPost_ret (v := .agg #[.int .i64 0, .slice (some ⟨w.heap.size + 1, 0, none⟩) 3 3]) (by simp [results, Try.results80, go_sem]) rfl ⟨⟨⟨some ⟨w.heap.size + 1, 0, none⟩, 3, 3⟩⟩, rfl, ⟨?_⟩, ?_, ?_⟩
  · simp only [World.size_alloc] at ho
    refine ho.keep ?_
    intro g hg
    simp [Value.ownBlock] at hg
    subst hg
    have e : ∀ o o2, ((w.alloc o).alloc o2).heap[w.heap.size + 1]? = some o2 := fun o o2 => by
      have := heap_alloc_new (w.alloc o) o2
      rwa [World.size_alloc] at this
    rw [e, e]
  · simp [HClock.foot, foot1, Value.ownBlock, SV.val]
  · repeat (first | exact Below.refl _ _ | refine Below.alloc ?_ (by simp <;> omega) _ | refine below_grow_of ?_ (by simp <;> omega) _ _ | refine Below.drew ?_)

set_option maxHeartbeats 400000 in
theorem ClockNew_spec (w : World) : Calls Try.prog 76 #[] w fun e w' => ∃ H' : HClock, e = .returned (H'.val newClk) ∧ OwClock w' H' newClk ∧ (∀ g ∈ H'.foot, w.heap.size ≤ g) ∧ Below w.heap.size w w' := by
  have hmk : ∀ w, (Instr.makeSlice 36 (.int .i64 3) (.int .i64 3)).run Try.prog w = .ok (.slice (some ⟨w.heap.size, 0, none⟩) 3 3) (w.alloc (.cells (madeCells #[.bool false, .int .i64 0, .bool false, .int .i64 0] (3 * FPin.n)) 120)) := run_make_flat (P := Try.prog) FPin 36 120 (.agg #[.bool false, .int .i64 0, .bool false, .int .i64 0]) 32 Try.underlying36 Try.infoPin 3 (by omega) (by omega)
  go_enter Try.func76, Try.ntmps76
  go_wp2
  have ho := OwL.made FPin #[.bool false, .int .i64 0, .bool false, .int .i64 0] rfl 3 (by simp [maxLen]) (w.alloc (.cells #[.int .i64 0, .slice none 0 0] 38)) 120
  refine bodyPost_ret (v := .agg #[.int .i64 0, .slice (some ⟨w.heap.size + 1, 0, none⟩) 3 3]) (by simp [results, Try.results76, go_sem]) rfl ⟨⟨⟨some ⟨w.heap.size + 1, 0, none⟩, 3, 3⟩⟩, rfl, ⟨?_⟩, ?_, ?_⟩
  · simp only [World.size_alloc] at ho
    refine ho.keep ?_
    intro g hg
    simp [Value.ownBlock] at hg
    subst hg
    have e : ∀ o o2, ((w.alloc o).alloc o2).heap[w.heap.size + 1]? = some o2 := fun o o2 => by
      have := heap_alloc_new (w.alloc o) o2
      rwa [World.size_alloc] at this
    rw [e, e]
  · simp [HClock.foot, foot1, Value.ownBlock, SV.val]
  · repeat (first | exact Below.refl _ _ | refine Below.alloc ?_ (by simp <;> omega) _ | refine below_grow_of ?_ (by simp <;> omega) _ _ | refine Below.drew ?_)

set_option maxHeartbeats 400000 in
theorem LimboNew_spec (w : World) : Calls Try.prog 77 #[] w fun e w' => ∃ v t, e = .returned v ∧ OwLL FLRow 202 190 w' v t [[], [], []] ∧ (∀ g ∈ foot2 v t, w.heap.size ≤ g) ∧ Below w.heap.size w w' := by
  have hmk : ∀ w, (Instr.makeSlice 58 (.int .i64 3) (.int .i64 3)).run Try.prog w = .ok (.slice (some ⟨w.heap.size, 0, none⟩) 3 3) (w.alloc (.cells (madeCells #[.slice none 0 0] (3 * FS.n)) 190)) := run_make_flat (P := Try.prog) FS 58 190 (.agg #[.slice none 0 0]) 24 Try.underlying58 Try.infoLList 3 (by omega) (by omega)
  go_enter Try.func77, Try.ntmps77
  go_wp2
  go_ret
  exact ⟨_, _, rfl, OwLL.made #[.slice none 0 0] rfl 3 (by simp [maxLen]) w FLRow 202 190, foot2_made _ 3, (Below.refl _ _).alloc (Nat.le_refl _) _⟩

set_option maxHeartbeats 400000 in
theorem LimboNew_impl (w : World) : Calls Try.prog 81 #[] w fun e w' => ∃ v t, e = .returned v ∧ OwLL FLRow 202 190 w' v t [[], [], []] ∧ (∀ g ∈ foot2 v t, w.heap.size ≤ g) ∧ Below w.heap.size w w' := by
  have hmk : ∀ w, (Instr.makeSlice 58 (.int .i64 3) (.int .i64 3)).run Try.prog w = .ok (.slice (some ⟨w.heap.size, 0, none⟩) 3 3) (w.alloc (.cells (madeCells #[.slice none 0 0] (3 * FS.n)) 190)) := run_make_flat (P := Try.prog) FS 58 190 (.agg #[.slice none 0 0]) 24 Try.underlying58 Try.infoLList 3 (by omega) (by omega)
  go_enter Try.func81, Try.ntmps81
  go_wp2
  go_ret
  exact ⟨_, _, rfl, OwLL.made #[.slice none 0 0] rfl 3 (by simp [maxLen]) w FLRow 202 190, foot2_made _ 3, (Below.refl _ _).alloc (Nat.le_refl _) _⟩

set_option maxHeartbeats 400000 in
theorem HazNew_spec (w : World) : Calls Try.prog 78 #[] w fun e w' => ∃ v, e = .returned v ∧ OwL FI 3 w' v [0, 0, 0] ∧ (∀ g ∈ foot1 v, w.heap.size ≤ g) ∧ Below w.heap.size w w' := by
  have hmk : ∀ w, (Instr.makeSlice 49 (.int .i64 3) (.int .i64 3)).run Try.prog w = .ok (.slice (some ⟨w.heap.size, 0, none⟩) 3 3) (w.alloc (.cells (madeCells #[.int .i64 0] (3 * FI.n)) 3)) := run_make_flat (P := Try.prog) FI 49 3 (.int .i64 0) 8 Try.underlying49 Try.infoInt 3 (by omega) (by omega)
  go_enter Try.func78, Try.ntmps78
  go_wp2
  go_ret
  exact ⟨_, rfl, OwL.made FI #[.int .i64 0] rfl 3 (by simp [maxLen]) w 3, by simp [foot1, Value.ownBlock], (Below.refl _ _).alloc (Nat.le_refl _) _⟩

set_option maxHeartbeats 400000 in
theorem HazNew_impl (w : World) : Calls Try.prog 82 #[] w fun e w' => ∃ v, e = .returned v ∧ OwL FI 3 w' v [0, 0, 0] ∧ (∀ g ∈ foot1 v, w.heap.size ≤ g) ∧ Below w.heap.size w w' := by
  have hmk : ∀ w, (Instr.makeSlice 49 (.int .i64 3) (.int .i64 3)).run Try.prog w = .ok (.slice (some ⟨w.heap.size, 0, none⟩) 3 3) (w.alloc (.cells (madeCells #[.int .i64 0] (3 * FI.n)) 3)) := run_make_flat (P := Try.prog) FI 49 3 (.int .i64 0) 8 Try.underlying49 Try.infoInt 3 (by omega) (by omega)
  go_enter Try.func82, Try.ntmps82
  go_wp2
  go_ret
  exact ⟨_, rfl, OwL.made FI #[.int .i64 0] rfl 3 (by simp [maxLen]) w 3, by simp [foot1, Value.ownBlock], (Below.refl _ _).alloc (Nat.le_refl _) _⟩

end Go.Proofs.Ytodbkbolpcbooaa
