/-
  Jobs: held.
-/
import Derived.Test.YtdepckmjgpkjmaaT
import Derived.Test.YtdepckmjgpkjmaaL
import Derived.Deep.QuietTactic
import Derived.BigQuiet
import Derived.Deep.LoopGhost
import Derived.Deep.RegionHeld3
import Derived.Test.YtdepckmjgpkjmaaN
import Derived.Test.YtdepckmjgpkjmaaA
import Derived.WalkSpells
import Derived.Laws.Cover3
import Derived.Test.YtdepckmjgpkjmaaJ1J
namespace Go.Proofs.Ytdepckmjgpkjmaa
open Go.RowKit

set_option maxRecDepth 1000000 in
set_option maxHeartbeats 8000000 in
theorem heldJobS_ct (w : World) (v : Value) (l : List Job) (k : Int) (h : RdL FJob w w.heap.size v (marks mkJob 21 l l.length k)) (hk0 : 0 ≤ k) (hk1 : (k + (l.length : Int) * 21) ≤ 4611686018427387904) :
    Calls Try.prog 76 #[v, .int .i64 k] w fun e w' => e = .returned (.int .i64 (k + (l.length : Int) * 21)) ∧ Below w.heap.size w w' := by
  obtain ⟨A, cap, hv, _⟩ := id h
  rw [marks_length] at hv
  subst hv
  go_enter Try.func76, Try.ntmps76
  go_wp2
  go_loopw [1, 5] (fun q i wr => ∃ i' : Nat, i' ≤ l.length ∧ i = .int .i64 i' ∧ q = .int .i64 (k + (i' : Int) * 21) ∧ Below w.heap.size w wr) (fun _ i _ => l.length - (intOf i).toNat)
  case atStart => exact ⟨0, Nat.zero_le _, rfl, by simp, Below.refl _ _⟩
  case round =>
    obtain ⟨i, hi, rfl, rfl, hb⟩ := hrel
    by_cases hlt : i < l.length
    · obtain ⟨g, off, cap', he, _, _, _, hq⟩ := (h.below hb).at_ (marks_at mkJob 21 l k i hlt)
      injection he with he1 he2 he3
      clear he2
      subst he1 he3
      have c0 : wr.cell? ⟨g, off + i * 21, none⟩ = some (.bool ((k + (i : Int) * 21) % 3 == 0)) := hq 0 _ rfl
      have c1 : wr.cell? ⟨g, off + i * 21 + 1, none⟩ = some (.int .i64 (k + (i : Int) * 21 + 1)) := hq 1 _ rfl
      have c2 : wr.cell? ⟨g, off + i * 21 + 2, none⟩ = some (.int .i64 (k + (i : Int) * 21 + 1 + 1)) := hq 2 _ rfl
      have c3 : wr.cell? ⟨g, off + i * 21 + 3, none⟩ = some (.int .i64 (k + (i : Int) * 21 + 1 + 1 + 1)) := hq 3 _ rfl
      have c4 : wr.cell? ⟨g, off + i * 21 + 4, none⟩ = some (.int .i64 (k + (i : Int) * 21 + 1 + 1 + 1 + 1)) := hq 4 _ rfl
      have c5 : wr.cell? ⟨g, off + i * 21 + 5, none⟩ = some (.int .i64 (k + (i : Int) * 21 + 1 + 1 + 1 + 1 + 1)) := hq 5 _ rfl
      have c6 : wr.cell? ⟨g, off + i * 21 + 6, none⟩ = some (.int .i64 (k + (i : Int) * 21 + 1 + 1 + 1 + 1 + 1 + 1)) := hq 6 _ rfl
      have c7 : wr.cell? ⟨g, off + i * 21 + 7, none⟩ = some (.int .i64 (k + (i : Int) * 21 + 1 + 1 + 1 + 1 + 1 + 1 + 1)) := hq 7 _ rfl
      have c8 : wr.cell? ⟨g, off + i * 21 + 8, none⟩ = some (.int .i64 (k + (i : Int) * 21 + 1 + 1 + 1 + 1 + 1 + 1 + 1 + 1)) := hq 8 _ rfl
      have c9 : wr.cell? ⟨g, off + i * 21 + 9, none⟩ = some (.int .i64 (k + (i : Int) * 21 + 1 + 1 + 1 + 1 + 1 + 1 + 1 + 1 + 1)) := hq 9 _ rfl
      have c10 : wr.cell? ⟨g, off + i * 21 + 10, none⟩ = some (.int .i64 (k + (i : Int) * 21 + 1 + 1 + 1 + 1 + 1 + 1 + 1 + 1 + 1 + 1)) := hq 10 _ rfl
      have c11 : wr.cell? ⟨g, off + i * 21 + 11, none⟩ = some (.int .i64 (k + (i : Int) * 21 + 1 + 1 + 1 + 1 + 1 + 1 + 1 + 1 + 1 + 1 + 1)) := hq 11 _ rfl
      have c12 : wr.cell? ⟨g, off + i * 21 + 12, none⟩ = some (.int .i64 (k + (i : Int) * 21 + 1 + 1 + 1 + 1 + 1 + 1 + 1 + 1 + 1 + 1 + 1 + 1)) := hq 12 _ rfl
      have c13 : wr.cell? ⟨g, off + i * 21 + 13, none⟩ = some (.int .i64 (k + (i : Int) * 21 + 1 + 1 + 1 + 1 + 1 + 1 + 1 + 1 + 1 + 1 + 1 + 1 + 1)) := hq 13 _ rfl
      have c14 : wr.cell? ⟨g, off + i * 21 + 14, none⟩ = some (.int .i64 (k + (i : Int) * 21 + 1 + 1 + 1 + 1 + 1 + 1 + 1 + 1 + 1 + 1 + 1 + 1 + 1 + 1)) := hq 14 _ rfl
      have c15 : wr.cell? ⟨g, off + i * 21 + 15, none⟩ = some (.int .i64 (k + (i : Int) * 21 + 1 + 1 + 1 + 1 + 1 + 1 + 1 + 1 + 1 + 1 + 1 + 1 + 1 + 1 + 1)) := hq 15 _ rfl
      have c16 : wr.cell? ⟨g, off + i * 21 + 16, none⟩ = some (.bool ((k + (i : Int) * 21 + 1 + 1 + 1 + 1 + 1 + 1 + 1 + 1 + 1 + 1 + 1 + 1 + 1 + 1 + 1 + 1) % 3 == 0)) := hq 16 _ rfl
      have c17 : wr.cell? ⟨g, off + i * 21 + 17, none⟩ = some (.int .i64 (k + (i : Int) * 21 + 1 + 1 + 1 + 1 + 1 + 1 + 1 + 1 + 1 + 1 + 1 + 1 + 1 + 1 + 1 + 1 + 1)) := hq 17 _ rfl
      have c18 : wr.cell? ⟨g, off + i * 21 + 18, none⟩ = some (.int .i64 (k + (i : Int) * 21 + 1 + 1 + 1 + 1 + 1 + 1 + 1 + 1 + 1 + 1 + 1 + 1 + 1 + 1 + 1 + 1 + 1 + 1)) := hq 18 _ rfl
      have c19 : wr.cell? ⟨g, off + i * 21 + 19, none⟩ = some (.int .i64 (k + (i : Int) * 21 + 1 + 1 + 1 + 1 + 1 + 1 + 1 + 1 + 1 + 1 + 1 + 1 + 1 + 1 + 1 + 1 + 1 + 1 + 1)) := hq 19 _ rfl
      have c20 : wr.cell? ⟨g, off + i * 21 + 20, none⟩ = some (.int .i64 (k + (i : Int) * 21 + 1 + 1 + 1 + 1 + 1 + 1 + 1 + 1 + 1 + 1 + 1 + 1 + 1 + 1 + 1 + 1 + 1 + 1 + 1 + 1)) := hq 20 _ rfl
      clear hq
      go_wp2
      all_goals
        go_roundw
        case rel => exact ⟨i + 1, by omega, by go_num, by go_num, by first | exact hb | exact below_drewN hb _⟩
        case measure => simp [intOf]; omega
    · go_wp2
      go_ret
      obtain rfl : i = l.length := by omega
      exact ⟨rfl, hb⟩
end Go.Proofs.Ytdepckmjgpkjmaa
