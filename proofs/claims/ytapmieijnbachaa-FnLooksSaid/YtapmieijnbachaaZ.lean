/-
  Hazard pointers: the contracts of the program and of the reference.
-/
import Derived.Test.YtapmieijnbachaaT
import Derived.Test.YtapmieijnbachaaL
import Derived.Deep.QuietTactic
import Derived.BigQuiet
import Derived.Deep.LoopGhost
import Derived.Deep.RegionHeld3
import Derived.Test.YtapmieijnbachaaN
import Derived.Test.YtapmieijnbachaaA
import Derived.WalkSpells
import Derived.Laws.Cover3
import Derived.Test.YtapmieijnbachaaI
import Derived.Test.YtapmieijnbachaaL6
namespace Go.Proofs.Ytapmieijnbachaa
open Go.RowKit

def handleOkB (h : Int) : Bool := decide (32 ≤ h) && decide (h ≤ 223) && decide (h % 32 < 24)
def linkB (h : Int) : Bool := (h == 0) || handleOkB h

def hazOkB (z : List Int) : Bool := (z.length == 3) && !(z.any fun h => !linkB h)
def publishL (z : List Int) (wk h : Int) : List Int × Bool := if hazOkB z = true ∧ 0 ≤ wk ∧ wk ≤ 2 ∧ handleOkB h = true then (z.set wk.toNat h, true) else (z, false)
theorem ret_pair {v : Value} {a b : Bool} (h : a = b) : Ending.returned (.tuple #[v, .bool a]) = .returned (.tuple #[v, .bool b]) := by rw [h]
theorem hazOk_len {z : List Int} (h : hazOkB z = true) : z.length = 3 := by
  simp [hazOkB] at h
  exact h.1
theorem OwL.cellI {e : TypeId} {w : World} {g n c k : Nat} {l : List Int} {x : Int} (h : OwL FI e w (.slice (some ⟨g, 0, none⟩) n c) l) (hx : l[k]? = some x) : w.cell? ⟨g, k, none⟩ = some (.int .i64 x) := by simpa [FI] using h.cell_ (k := k) (j := 0) hx (by decide)
def clearL (z : List Int) (wk : Int) : List Int × Bool := if hazOkB z = true ∧ 0 ≤ wk ∧ wk ≤ 2 ∧ z[wk.toNat]? ≠ some 0 then (z.set wk.toNat 0, true) else (z, false)
def hazAtI (z : List Int) (wk : Int) : Int := if hazOkB z = true ∧ 0 ≤ wk ∧ wk ≤ 2 then z.getD wk.toNat 0 else 0

def heldTo (z : List Int) (h : Int) (k : Nat) : List Int := ((List.range k).filter fun j => z.getD j 0 == h).map fun (j : Nat) => (j : Int)
def heldL (z : List Int) (h : Int) : List Int := if hazOkB z = true ∧ h ≠ 0 then heldTo z h z.length else []
theorem heldTo_len (z : List Int) (h : Int) (k : Nat) : (heldTo z h k).length ≤ k := by
  unfold heldTo
  rw [List.length_map]
  exact Nat.le_trans (List.length_filter_le _ _) (by simp)
theorem heldTo_yes (z : List Int) (h : Int) (k : Nat) (he : z.getD k 0 = h) : heldTo z h (k + 1) = heldTo z h k ++ [(k : Int)] := by
  subst he
  simp [heldTo, List.range_succ, List.filter_append]
theorem heldTo_no (z : List Int) (h : Int) (k : Nat) (he : z.getD k 0 ≠ h) : heldTo z h (k + 1) = heldTo z h k := by
  simp only [heldTo, List.range_succ, List.filter_append, List.map_append]
  simp at he ⊢
  exact he

end Go.Proofs.Ytapmieijnbachaa