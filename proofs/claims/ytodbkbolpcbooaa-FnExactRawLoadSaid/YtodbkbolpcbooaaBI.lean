/-
  What is loaded through a handle: the contracts.
-/
import Derived.Test.YtodbkbolpcbooaaT
import Derived.Test.YtodbkbolpcbooaaL
import Derived.Deep.QuietTactic
import Derived.BigQuiet
import Derived.Deep.LoopGhost
import Derived.Deep.RegionHeld3
import Derived.Test.YtodbkbolpcbooaaN
import Derived.Test.YtodbkbolpcbooaaA
import Derived.WalkSpells
import Derived.Laws.Cover3
import Derived.Test.YtodbkbolpcbooaaBH
namespace Go.Proofs.Ytodbkbolpcbooaa
open Go.RowKit
def spotB (m : Mem) (h a k : Int) : Int × Int :=
  if memOkB m = false ∨ inB 1 7 k = false then (0, 1) else if liveB m h = false then (0, 4)
  else if inB 0 (sizeOfC (classInB m.Heap (h % 32)) - k) a = true then (startAt (h % 32) (classInB m.Heap (h % 32)) + a, 0) else (0, 2)
def loadInP (m : Mem) (h a k : Int) : Int × Int := if (spotB m h a k).2 = 0 then (loadN m.Heap.Bytes (spotB m h a k).1 k, 0) else (0, (spotB m h a k).2)
theorem spot_no1 {m : Mem} {h a k : Int} (c : memOkB m = false) : spotB m h a k = (0, 1) := if_pos (.inl c)
theorem spot_no2 {m : Mem} {h a k : Int} (c : inB 1 7 k = false) : spotB m h a k = (0, 1) := if_pos (.inr c)
theorem spot_no3 {m : Mem} {h a k : Int} (c : memOkB m = true) (c2 : inB 1 7 k = true) (c3 : liveB m h = false) : spotB m h a k = (0, 4) := by
  unfold spotB
  rw [if_neg (by rw [c, c2]; decide), if_pos c3]
theorem spot_no4 {m : Mem} {h a k : Int} (c : memOkB m = true) (c2 : inB 1 7 k = true) (c3 : liveB m h = true) (c4 : inB 0 (sizeOfC (classInB m.Heap (h % 32)) - k) a = false) : spotB m h a k = (0, 2) := by
  unfold spotB
  rw [if_neg (by rw [c, c2]; decide), if_neg (by rw [c3]; decide), if_neg (by rw [c4]; decide)]
theorem spot_yes {m : Mem} {h a k : Int} (c : memOkB m = true) (c2 : inB 1 7 k = true) (c3 : liveB m h = true) (c4 : inB 0 (sizeOfC (classInB m.Heap (h % 32)) - k) a = true) : spotB m h a k = (startAt (h % 32) (classInB m.Heap (h % 32)) + a, 0) := by
  unfold spotB
  rw [if_neg (by rw [c, c2]; decide), if_neg (by rw [c3]; decide), if_pos c4]
theorem live_parts {m : Mem} {h : Int} (c : liveB m h = true) : handleOkB h = true ∧ stateB m (h % 32) = 3 ∧ genInB m.Heap (h % 32) = h / 32 := by
  unfold liveB at c
  simp only [Bool.and_eq_true, beq_iff_eq] at c
  exact ⟨c.1.1, c.1.2, c.2⟩
theorem live_cls {m : Mem} {h : Int} (c : liveB m h = true) : ¬ classInB m.Heap (h % 32) < 0 := state_cls (by rw [(live_parts c).2.1]; decide)
theorem cls_start {h : Heap} {s : Int} (c : ¬ classInB h s < 0) : 12 ≤ startAt s (classInB h s) ∧ startAt s (classInB h s) + sizeOfC (classInB h s) ≤ 384 ∧ rngF s (classInB h s) = startAt s (classInB h s) ∧ rngT s (classInB h s) = startAt s (classInB h s) + sizeOfC (classInB h s) := by
  rcases classInB_cases h s with ⟨e, _⟩ | ⟨e, h1, h2, _, _⟩
  · omega
  · rw [← e] at h1 h2
    rcases rng_cases s (classInB h s) with ⟨k1, _⟩ | ⟨k1, k2, k3, k4⟩
    · rcases startAt_cases s (classInB h s) with ⟨j, _⟩ | ⟨_, _, j⟩ <;> omega
    · exact ⟨k1, by omega, k2, k3⟩
theorem inRange_live {h : Heap} {s a k : Int} (c : ¬ classInB h s < 0) : inRangeB h s a k = if inB 0 (sizeOfC (classInB h s) - k) a = true then startAt s (classInB h s) + a else -1 := by
  obtain ⟨_, _, e1, e2⟩ := cls_start c
  unfold inRangeB
  rw [e1, e2, show startAt s (classInB h s) + sizeOfC (classInB h s) - startAt s (classInB h s) - k = sizeOfC (classInB h s) - k by omega]
theorem load_no {m : Mem} {h a k c : Int} (e : spotB m h a k = (0, c)) (hc : c ≠ 0) : loadInP m h a k = (0, c) := by
  unfold loadInP
  rw [e]
  exact if_neg hc
theorem load_yes {m : Mem} {h a k p : Int} (e : spotB m h a k = (p, 0)) : loadInP m h a k = (loadN m.Heap.Bytes p k, 0) := by
  unfold loadInP
  rw [e]
  exact if_pos rfl
theorem ret_pair {a b : Int} {p : Int × Int} (h : p = (a, b)) : Ending.returned (.tuple #[.int .i64 a, .int .i64 b]) = .returned (.tuple #[.int .i64 p.1, .int .i64 p.2]) := by rw [h]
theorem spot_code (m : Mem) (h a k : Int) : (spotB m h a k).2 = 0 ∨ ((spotB m h a k).1 = 0 ∧ (spotB m h a k).2 ≠ 0) := by
  unfold spotB
  repeat' split
  all_goals simp
theorem spot_zero {m : Mem} {h a k : Int} (c : (spotB m h a k).2 = 0) : memOkB m = true ∧ 1 ≤ k ∧ k ≤ 7 ∧ liveB m h = true ∧ 12 ≤ (spotB m h a k).1 ∧ (spotB m h a k).1 + k ≤ 384 ∧ inB 0 (sizeOfC (classInB m.Heap (h % 32)) - k) a = true ∧ (spotB m h a k).1 = startAt (h % 32) (classInB m.Heap (h % 32)) + a := by
  by_cases c1 : memOkB m = false
  · rw [spot_no1 c1] at c
    exact absurd c (by decide)
  by_cases c2 : inB 1 7 k = false
  · rw [spot_no2 c2] at c
    exact absurd c (by decide)
  have c1' : memOkB m = true := by simpa using c1
  have c2' : inB 1 7 k = true := by simpa using c2
  by_cases c3 : liveB m h = false
  · rw [spot_no3 c1' c2' c3] at c
    exact absurd c (by decide)
  have c3' : liveB m h = true := by simpa using c3
  by_cases c4 : inB 0 (sizeOfC (classInB m.Heap (h % 32)) - k) a = false
  · rw [spot_no4 c1' c2' c3' c4] at c
    exact absurd c (by decide)
  have c4' : inB 0 (sizeOfC (classInB m.Heap (h % 32)) - k) a = true := by simpa using c4
  obtain ⟨b1, b2⟩ := inB_iff.1 c2'
  obtain ⟨g1, g2⟩ := inB_iff.1 c4'
  obtain ⟨f1, f2, _, _⟩ := cls_start (live_cls c3')
  rw [spot_yes c1' c2' c3' c4']
  exact ⟨c1', b1, b2, c3', by simp only; omega, by simp only; omega, c4', rfl⟩