/-
  Slices of ints: copied, compared, marked.
-/
import Derived.Test.YtfhdpnnepfnjhaaT
import Derived.Test.YtfhdpnnepfnjhaaL
import Derived.Deep.QuietTactic
import Derived.BigQuiet
import Derived.Deep.LoopGhost
import Derived.Deep.RegionHeld3
namespace Go.Proofs.Ytfhdpnnepfnjhaa
open Go.RowKit

theorem Try.infoInt : (Try.prog.info? 3).map (fun i => (i.zero, i.size, i.bytes)) = some (some (.int .i64 0), FI.n, 8) := by kernel_rfl

set_option maxHeartbeats 400000 in
theorem eqIntS_ct (w : World) (v1 v2 : Value) (l : List Int) (h1 : RdL FI w w.heap.size v1 l) (h2 : RdL FI w w.heap.size v2 l) (hs : l.length ≤ 1073741824) :
    Calls Try.prog 30 #[v1, v2] w fun e w' => e = .returned (.bool true) ∧ Below w.heap.size w w' := by
  obtain ⟨A1, c1, hv1, _⟩ := id h1
  obtain ⟨A2, c2, hv2, _⟩ := id h2
  subst hv1 hv2
  go_enter Try.func30, Try.ntmps30
  go_wp2
  go_loopw [5] (fun i wr => ∃ k : Nat, k ≤ l.length ∧ i = .int .i64 k ∧ Below w.heap.size w wr) (fun i _ => l.length - (intOf i).toNat)
  case atStart => exact ⟨0, Nat.zero_le _, rfl, Below.refl _ _⟩
  case round =>
    obtain ⟨k, hk, rfl, hb⟩ := hrel
    by_cases hlt : k < l.length
    · obtain ⟨g1, o1, cap1, e1, _, _, _, q1⟩ := (h1.below hb).at_ (List.getElem?_eq_getElem hlt)
      obtain ⟨g2, o2, cap2, e2, _, _, _, q2⟩ := (h2.below hb).at_ (List.getElem?_eq_getElem hlt)
      injection e1 with e11 _ e13
      injection e2 with e21 _ e23
      subst e11 e13 e21 e23
      have hc1 := q1 0 _ rfl
      have hc2 := q2 0 _ rfl
      simp only [FI, Nat.mul_one, Nat.add_zero] at hc1 hc2
      clear q1 q2
      go_wp2
      go_quiet (fail)
      go_wp2
      go_roundw
      case rel => exact ⟨k + 1, by omega, by go_num, below_drewN hb _⟩
      case measure => simp [intOf]; omega
    · go_wp2
      go_ret
      exact ⟨rfl, hb⟩
end Go.Proofs.Ytfhdpnnepfnjhaa
