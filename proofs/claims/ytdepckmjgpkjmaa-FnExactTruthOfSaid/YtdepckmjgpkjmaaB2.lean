/-
  Heaps: the class of a slot.
-/
import Derived.Test.YtdepckmjgpkjmaaT
import Derived.Test.YtdepckmjgpkjmaaL
import Derived.Deep.QuietTactic
import Derived.BigQuiet
import Derived.Deep.LoopGhost
import Derived.Deep.RegionHeld3
import Derived.Test.YtdepckmjgpkjmaaN
import Derived.Test.YtdepckmjgpkjmaaA
import Derived.WalkSpells
import Derived.Laws.Cover3
import Derived.Test.YtdepckmjgpkjmaaB1
namespace Go.Proofs.Ytdepckmjgpkjmaa
open Go.RowKit

theorem clAt_get {h : Heap} (sh : Shape h) {s : Int} (h1 : inB 0 23 s = true) : h.Class[(s / 4).toNat]? = some (clAt h s) := by
  have a := inB_iff.1 h1
  have b := sh.cl
  have hlt : (s / 4).toNat < h.Class.length := by omega
  unfold clAt
  rw [getD_at hlt, List.getElem?_eq_getElem hlt]
theorem clAt_bd {h : Heap} (sh : Shape h) (s : Int) : -1 ≤ clAt h s ∧ clAt h s ≤ 2 := sh.cs _
theorem classInB_cases (h : Heap) (s : Int) : (classInB h s = -1 ∧ genAt s (clAt h s) = -1) ∨ (classInB h s = clAt h s ∧ 8 ≤ genAt s (clAt h s) ∧ genAt s (clAt h s) + 4 + sizeOfC (clAt h s) ≤ 384 ∧ inB 0 23 s = true ∧ inB 0 2 (clAt h s) = true) := by
  rcases genAt_bd s (clAt h s) with k | ⟨k1, k2⟩
  · left
    exact ⟨if_pos (by omega), k⟩
  · right
    have := genAt_iff.1 (show 0 ≤ genAt s (clAt h s) by omega)
    exact ⟨if_neg (by omega), k1, k2, this.1, this.2.1⟩
theorem classInB_out {h : Heap} {s : Int} (h1 : inB 0 23 s = false) : classInB h s = -1 := if_pos (by rw [genAt_no1 h1]; decide)
