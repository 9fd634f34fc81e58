/-
  Heaps: pages, the reference.
-/
import Derived.Test.YtodbkbolpcbooaaT
import Derived.Test.YtodbkbolpcbooaaL
import Derived.Deep.QuietTactic
import Derived.BigQuiet
import Derived.Deep.LoopGhost
import Derived.Deep.RegionHeld3
import Derived.Test.YtodbkbolpcbooaaN
import Derived.Test.YtodbkbolpcbooaaA
import Derived.WalkSpells
import Derived.Laws.Cover3
import Derived.Test.YtodbkbolpcbooaaB4
namespace Go.Proofs.Ytodbkbolpcbooaa
open Go.RowKit

theorem zeros_step {b : List Int} {lo m : Nat} (h1 : lo ≤ m) (h2 : m < b.length) (hz : zerosB ((b.drop lo).take (m - lo)) = true) (h0 : b.getD m 0 = 0) : zerosB ((b.drop lo).take (m + 1 - lo)) = true := by
  unfold zerosB at *
  rw [show m + 1 - lo = (m - lo) + 1 by omega, List.take_succ_eq_append_getElem (by rw [List.length_drop]; omega), List.all_append, hz]
  rw [getD_at h2] at h0
  simp only [List.getElem_drop, List.all_cons, List.all_nil, Bool.and_true, Bool.true_and]
  rw [show b[lo + (m - lo)] = b[m] by congr 1; omega, h0]
  rfl
theorem zeros_no {b : List Int} {lo n m : Nat} (h1 : lo ≤ m) (h2 : m < b.length) (h3 : m < lo + n) (h0 : b.getD m 0 ≠ 0) : zerosB ((b.drop lo).take n) = false := by
  unfold zerosB
  rw [List.all_eq_false]
  refine ⟨b[m], ?_, ?_⟩
  · rw [List.mem_take_iff_getElem]
    refine ⟨m - lo, by rw [List.length_drop]; omega, ?_⟩
    rw [List.getElem_drop]
    congr 1
    omega
  · rw [getD_at h2] at h0
    simpa using h0
theorem genAt_page {p i : Nat} {c : Int} (hp : p < 6) (hc : inB 0 2 c = true) (hi : i < (perPage c).toNat) : genAt (slotAtP p i) c = ((p * 64 + 8 + i * (strideOf c).toNat : Nat) : Int) := by
  have a := perPage_bd c
  have e : slotAtP p i = (p : Int) * 4 + i := if_pos ⟨inB_iff.2 ⟨by omega, by omega⟩, inB_iff.2 ⟨by omega, by omega⟩⟩
  have e1 : ((p : Int) * 4 + i) / 4 = p := by omega
  have e2 : ((p : Int) * 4 + i) % 4 = i := by omega
  rw [e, genAt_yes (inB_iff.2 ⟨by omega, by omega⟩) hc (by rw [e2]; omega), e1, e2]
  rcases cls hc with rfl | rfl | rfl
  · show (p : Int) * 64 + 8 + i * 12 = ((p * 64 + 8 + i * 12 : Nat) : Int)
    omega
  · show (p : Int) * 64 + 8 + i * 20 = ((p * 64 + 8 + i * 20 : Nat) : Int)
    omega
  · show (p : Int) * 64 + 8 + i * 44 = ((p * 64 + 8 + i * 44 : Nat) : Int)
    omega

theorem quiet_left {P : Program} {f : FuncId} {args : Array Value} {w : World} {n : Nat} {v : Value}
    (h : Calls P f args (w.drewN n) fun e w' => e = .returned v ∧ w.drewN n = w') : Calls P f args (w.drewN n) fun e w'' => e = .returned v ∧ ∃ m, w'' = w.drewN m :=
  h.mono fun _ _ ⟨he, hm⟩ => ⟨he, n, hm.symm⟩