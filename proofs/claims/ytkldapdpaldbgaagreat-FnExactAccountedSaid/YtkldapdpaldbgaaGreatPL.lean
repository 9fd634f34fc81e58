/-
  Places in the arena: sizes, strides, slots, ranges: plain definitions and facts.
-/
import Derived.Test.YtkldapdpaldbgaaGreatP
namespace Go.Proofs.YtkldapdpaldbgaaGreat
open Go.RowKit
def perPage (c : Int) : Int := if c = 0 then 4 else if c = 1 then 2 else if c = 2 then 1 else 0
def strideOf (c : Int) : Int := if c = 0 then 12 else if c = 1 then 20 else if c = 2 then 44 else 0
def sizeOfC (c : Int) : Int := if c = 0 then 8 else if c = 1 then 16 else if c = 2 then 40 else 0
def classOfS (n : Int) : Int := if n < 1 then -1 else if n ≤ 8 then 0 else if n ≤ 16 then 1 else if n ≤ 40 then 2 else -1
def pageOfS (s : Int) : Int := if inB 0 23 s = true then s / 4 else -1
def indexOfS (s : Int) : Int := if inB 0 23 s = true then s % 4 else -1
def slotAtP (p i : Int) : Int := if inB 0 5 p = true ∧ inB 0 3 i = true then p * 4 + i else -1
def genAt (s c : Int) : Int := if inB 0 23 s = true ∧ inB 0 2 c = true ∧ s % 4 < perPage c then s / 4 * 64 + 8 + s % 4 * strideOf c else -1
def startAt (s c : Int) : Int := if genAt s c < 0 then -1 else genAt s c + 4
def handleOfS (s g : Int) : Int := if inB 0 23 s = true ∧ inB 1 6 g = true then g * 32 + s else 0
theorem cls {c : Int} (h : inB 0 2 c = true) : c = 0 ∨ c = 1 ∨ c = 2 := by
  have := inB_iff.1 h
  omega
theorem perPage_no {c : Int} (h : inB 0 2 c = false) : perPage c = 0 := by
  have := inB_not h
  unfold perPage
  rw [if_neg (by omega), if_neg (by omega), if_neg (by omega)]
theorem strideOf_no {c : Int} (h : inB 0 2 c = false) : strideOf c = 0 := by
  have := inB_not h
  unfold strideOf
  rw [if_neg (by omega), if_neg (by omega), if_neg (by omega)]
theorem sizeOfC_no {c : Int} (h : inB 0 2 c = false) : sizeOfC c = 0 := by
  have := inB_not h
  unfold sizeOfC
  rw [if_neg (by omega), if_neg (by omega), if_neg (by omega)]
theorem perPage_bd (c : Int) : 0 ≤ perPage c ∧ perPage c ≤ 4 := by
  unfold perPage
  repeat' split
  all_goals omega
theorem strideOf_bd (c : Int) : 0 ≤ strideOf c ∧ strideOf c ≤ 44 := by
  unfold strideOf
  repeat' split
  all_goals omega
theorem sizeOfC_bd (c : Int) : 0 ≤ sizeOfC c ∧ sizeOfC c ≤ 40 := by
  unfold sizeOfC
  repeat' split
  all_goals omega
theorem genAt_yes {s c : Int} (h1 : inB 0 23 s = true) (h2 : inB 0 2 c = true) (h3 : s % 4 < perPage c) : genAt s c = s / 4 * 64 + 8 + s % 4 * strideOf c := if_pos ⟨h1, h2, h3⟩
theorem genAt_no1 {s c : Int} (h1 : inB 0 23 s = false) : genAt s c = -1 := if_neg (by rw [h1]; simp)
theorem genAt_no2 {s c : Int} (h1 : inB 0 2 c = false) : genAt s c = -1 := if_neg (by rw [h1]; simp)
theorem genAt_no3 {s c : Int} (h1 : ¬ s % 4 < perPage c) : genAt s c = -1 := if_neg (fun h => h1 h.2.2)
theorem genAt_bd (s c : Int) : genAt s c = -1 ∨ (8 ≤ genAt s c ∧ genAt s c + 4 + sizeOfC c ≤ 384) := by
  by_cases h : inB 0 23 s = true ∧ inB 0 2 c = true ∧ s % 4 < perPage c
  · right
    obtain ⟨h1, h2, h3⟩ := h
    rw [genAt_yes h1 h2 h3]
    have a := inB_iff.1 h1
    rcases cls h2 with rfl | rfl | rfl
    · simp [perPage, strideOf, sizeOfC] at *; omega
    · simp [perPage, strideOf, sizeOfC] at *; omega
    · simp [perPage, strideOf, sizeOfC] at *; omega
  · exact .inl (if_neg h)
theorem genAt_iff {s c : Int} : 0 ≤ genAt s c ↔ inB 0 23 s = true ∧ inB 0 2 c = true ∧ s % 4 < perPage c := by
  constructor
  · intro h
    by_cases k : inB 0 23 s = true ∧ inB 0 2 c = true ∧ s % 4 < perPage c
    · exact k
    · unfold genAt at h
      rw [if_neg k] at h
      omega
  · rintro ⟨h1, h2, h3⟩
    rcases genAt_bd s c with h | h
    · rw [genAt_yes h1 h2 h3] at h
      have a := inB_iff.1 h1
      have b := strideOf_bd c
      have d : 0 ≤ s % 4 * strideOf c := Int.mul_nonneg (by omega) b.1
      omega
    · omega
end Go.Proofs.YtkldapdpaldbgaaGreat
