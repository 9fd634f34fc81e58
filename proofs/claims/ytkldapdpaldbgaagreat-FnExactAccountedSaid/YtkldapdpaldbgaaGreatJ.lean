/-
  Slices of ints marked and held.
-/
import Derived.Test.YtkldapdpaldbgaaGreatT
import Derived.Test.YtkldapdpaldbgaaGreatL
import Derived.Deep.QuietTactic
import Derived.BigQuiet
import Derived.Deep.LoopGhost
import Derived.Deep.RegionHeld3
import Derived.Test.YtkldapdpaldbgaaGreatN
import Derived.Test.YtkldapdpaldbgaaGreatI
namespace Go.Proofs.YtkldapdpaldbgaaGreat
open Go.RowKit
theorem grown_set {w w1 : World} {g : Nat} (h : w.grownBy w1 (some g)) (o : Nat) (u : Value) : w.grownBy (w1.setCell ⟨g, o, none⟩ u) (some g) := ⟨h.os, h.tape, h.output, by simp [h.size], fun k hk hne => (Below.heap_setCell _ _ _ _ (by intro e; subst e; exact hne rfl)).trans (h.block k hk hne)⟩
def mkInt (k : Int) : Int := k

set_option maxHeartbeats 1000000 in
theorem markIntS_ct (w : World) (v : Value) (l : List Int) (k : Int) (h : OwL FI 3 w v l) (hk0 : 0 ≤ k) (hk1 : (k + (l.length : Int)) ≤ 4611686018427387904) :
    Calls Tryz.prog 36 #[v, .int .i64 k] w fun e w' => e = .returned (.int .i64 (k + (l.length : Int))) ∧ OwL FI 3 w' v (marks mkInt 1 l l.length k) ∧ w.grownBy w' v.ownBlock ∧ w'.heap.size = w.heap.size := by
  rcases h.form with ⟨rfl, rfl⟩ | ⟨g, cap, hv, hg, hl, hc⟩
  · go_enter Tryz.func36, Tryz.ntmps36
    go_wp2
    go_loop [1, 5] (fun q i => q = .int .i64 k ∧ i = .int .i64 0) (fun _ _ => 0)
    case atStart => exact ⟨rfl, rfl⟩
    case round =>
      obtain ⟨rfl, rfl⟩ := hrel
      go_wp2
      go_ret
      exact ⟨by simp, h, World.grownBy.refl _ _, rfl⟩
  subst hv
  go_enter Tryz.func36, Tryz.ntmps36
  go_wp2
  go_loopw [1, 5] (fun q i wr => ∃ i' : Nat, i' ≤ l.length ∧ i = .int .i64 i' ∧ q = .int .i64 (k + (i' : Int)) ∧ OwL FI 3 wr (.slice (some ⟨g, 0, none⟩) l.length cap) (marks mkInt 1 l i' k) ∧ w.grownBy wr (some g) ∧ wr.heap.size = w.heap.size) (fun _ i _ => l.length - (intOf i).toNat)
  case atStart => exact ⟨0, Nat.zero_le _, rfl, by simp, h, World.grownBy.refl _ _, rfl⟩
  case round =>
    obtain ⟨i, hi, rfl, rfl, ho, hgr, hsz⟩ := hrel
    by_cases hlt : i < l.length
    · have hx := marks_get mkInt 1 l i k hlt
      have hf := ho.frozen_
      have c0 : wr.cell? ⟨g, i, none⟩ = some (.int .i64 l[i]) := by simpa [FI] using ho.cell_ (j := 0) hx (by decide)
      clear h
      go_wp2
      clear hf c0
      go_roundw
      case rel =>
        have s0 := ho.set_ (j := 0) (y := ((k + (i : Int)) : Int)) (u := .int .i64 (k + (i : Int))) hx (by decide) rfl
        refine ⟨i + 1, by omega, by go_num, by go_num, ?_, grown_set (hgr) _ _, by simp [hsz]⟩
        rw [show i * FI.n + 0 = i by simp [FI]] at s0
        have e := marks_step mkInt 1 l i k hlt
        rw [← e]
        simpa [mkInt] using s0
      case measure => simp [intOf]; omega
    · go_wp2
      go_ret
      obtain rfl : i = l.length := by omega
      exact ⟨rfl, ho, hgr, hsz⟩

set_option maxHeartbeats 1000000 in
theorem heldIntS_ct (w : World) (v : Value) (l : List Int) (k : Int) (h : RdL FI w w.heap.size v (marks mkInt 1 l l.length k)) (hk0 : 0 ≤ k) (hk1 : (k + (l.length : Int)) ≤ 4611686018427387904) :
    Calls Tryz.prog 37 #[v, .int .i64 k] w fun e w' => e = .returned (.int .i64 (k + (l.length : Int))) ∧ Below w.heap.size w w' := by
  obtain ⟨A, cap, hv, _⟩ := id h
  rw [marks_length] at hv
  subst hv
  go_enter Tryz.func37, Tryz.ntmps37
  go_wp2
  go_loopw [1, 5] (fun q i wr => ∃ i' : Nat, i' ≤ l.length ∧ i = .int .i64 i' ∧ q = .int .i64 (k + (i' : Int)) ∧ Below w.heap.size w wr) (fun _ i _ => l.length - (intOf i).toNat)
  case atStart => exact ⟨0, Nat.zero_le _, rfl, by simp, Below.refl _ _⟩
  case round =>
    obtain ⟨i, hi, rfl, rfl, hb⟩ := hrel
    by_cases hlt : i < l.length
    · obtain ⟨g, off, cap', he, _, _, _, hq⟩ := (h.below hb).at_ (marks_at mkInt 1 l k i hlt)
      injection he with he1 he2 he3
      clear he2
      subst he1 he3
      have c0 : wr.cell? ⟨g, off + i, none⟩ = some (.int .i64 (k + (i : Int))) := by simpa [FI, mkInt] using hq 0 _ rfl
      clear hq
      go_wp2
      all_goals
        go_roundw
        case rel => exact ⟨i + 1, by omega, by go_num, by go_num, by first | exact hb | exact below_drewN hb _⟩
        case measure => simp [intOf]; omega
    · go_wp2
      go_ret
      obtain rfl : i = l.length := by omega
      exact ⟨rfl, hb⟩
end Go.Proofs.YtkldapdpaldbgaaGreat
