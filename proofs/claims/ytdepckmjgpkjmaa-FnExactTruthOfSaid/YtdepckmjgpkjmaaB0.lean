/-
  Lists of ints searched; bytes: the contracts.
-/
import Derived.Test.YtdepckmjgpkjmaaT
import Derived.Test.YtdepckmjgpkjmaaL
import Derived.Deep.QuietTactic
import Derived.BigQuiet
import Derived.Deep.LoopGhost
import Derived.Deep.RegionHeld3
import Derived.Test.YtdepckmjgpkjmaaN
import Derived.Test.YtdepckmjgpkjmaaA
import Derived.WalkSpells
import Derived.Laws.Cover3
import Derived.Test.YtdepckmjgpkjmaaPA
namespace Go.Proofs.Ytdepckmjgpkjmaa
open Go.RowKit

def idxOf {α : Type} (p : α → Bool) (l : List α) : Int := match l.findIdx? p with | some i => i | none => -1
theorem idxOf_hit {α : Type} (p : α → Bool) (l : List α) (i : Nat) (hi : i < l.length) (h : (l.take i).any p = false) (hp : p l[i] = true) : idxOf p l = i := by
  have hf : l.findIdx? p = some i := by
    rw [List.findIdx?_eq_some_iff_getElem]
    refine ⟨hi, hp, fun j hj => ?_⟩
    rw [List.any_eq_false] at h
    exact h l[j] (List.mem_take_iff_getElem.2 ⟨j, by omega, rfl⟩)
  unfold idxOf
  rw [hf]
theorem idxOf_none {α : Type} (p : α → Bool) (l : List α) (h : l.any p = false) : idxOf p l = -1 := by
  have hf : l.findIdx? p = none := by
    rw [List.findIdx?_eq_none_iff]
    intro x hx
    rw [List.any_eq_false] at h
    simpa using h x hx
  unfold idxOf
  rw [hf]
theorem any_take_succ {α : Type} (p : α → Bool) (l : List α) (i : Nat) (hi : i < l.length) (h : (l.take i).any p = false) (hp : p l[i] = false) : (l.take (i + 1)).any p = false := by
  rw [List.take_succ_eq_append_getElem hi, List.any_append, h]
  simp [hp]
theorem idxOf_ge {α : Type} (p : α → Bool) (l : List α) : decide (0 ≤ idxOf p l) = l.any p := by
  unfold idxOf
  cases h : l.findIdx? p with
  | none =>
    rw [List.findIdx?_eq_none_iff] at h
    have : l.any p = false := by
      rw [List.any_eq_false]
      intro x hx
      simp [h x hx]
    rw [this]
    rfl
  | some i =>
    rw [List.findIdx?_eq_some_iff_getElem] at h
    obtain ⟨hi, hp, _⟩ := h
    have : l.any p = true := List.any_eq_true.2 ⟨l[i], List.getElem_mem hi, hp⟩
    rw [this]
    simp

theorem all_not_any {α : Type} (p : α → Bool) (l : List α) : l.all p = !(l.any fun x => !p x) := by
  induction l with
  | nil => rfl
  | cons x l ih => simp [ih]
def bytesOkB (b : List Int) : Bool := decide (b.length ≤ 1000) && b.all (inB 0 255)
def loadTo (b : List Int) (a : Nat) : Nat → Int
  | 0 => 0
  | k + 1 => loadTo b a k * 256 + b.getD (a + k) 0
def loadN (b : List Int) (a k : Int) : Int := loadTo b a.toNat k.toNat
theorem getD_at {α : Type} {b : List α} {d : α} {i : Nat} (h : i < b.length) : b.getD i d = b[i] := by simp [List.getD, h]
theorem getD_off {α : Type} {b : List α} {d : α} {i : Nat} (h : b.length ≤ i) : b.getD i d = d := by simp [List.getD, h]
theorem byte_at {b : List Int} (hb : b.all (inB 0 255) = true) (i : Nat) : 0 ≤ b.getD i 0 ∧ b.getD i 0 ≤ 255 := by
  by_cases h : i < b.length
  · rw [getD_at h]
    exact inB_iff.1 (List.all_eq_true.1 hb _ (List.getElem_mem h))
  · rw [getD_off (by omega)]
    omega
theorem loadTo_bd {b : List Int} (hb : b.all (inB 0 255) = true) (a k : Nat) : 0 ≤ loadTo b a k ∧ loadTo b a k < 256 ^ k := by
  induction k with
  | zero => exact ⟨Int.le_refl _, by show (0 : Int) < 1; omega⟩
  | succ k ih =>
    have h1 := byte_at hb (a + k)
    show 0 ≤ loadTo b a k * 256 + b.getD (a + k) 0 ∧ loadTo b a k * 256 + b.getD (a + k) 0 < 256 ^ (k + 1)
    rw [Int.pow_succ]
    omega
theorem loadTo_small {b : List Int} (hb : b.all (inB 0 255) = true) (a k : Nat) (hk : k ≤ 6) : 0 ≤ loadTo b a k ∧ loadTo b a k ≤ 281474976710656 := by
  have h1 := loadTo_bd hb a k
  have h2 : (256 : Int) ^ k ≤ 281474976710656 := by
    rcases (show k = 0 ∨ k = 1 ∨ k = 2 ∨ k = 3 ∨ k = 4 ∨ k = 5 ∨ k = 6 by omega) with rfl | rfl | rfl | rfl | rfl | rfl | rfl <;> decide
  omega
