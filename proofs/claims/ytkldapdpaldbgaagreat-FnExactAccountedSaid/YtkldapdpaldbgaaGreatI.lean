/-
  Slices of ints: copied, compared, marked.
-/
import Derived.Test.YtkldapdpaldbgaaGreatT
import Derived.Test.YtkldapdpaldbgaaGreatL
import Derived.Deep.QuietTactic
import Derived.BigQuiet
import Derived.Deep.LoopGhost
import Derived.Deep.RegionHeld3
namespace Go.Proofs.YtkldapdpaldbgaaGreat
open Go.RowKit

theorem Tryz.infoInt : (Tryz.prog.info? 3).map (fun i => (i.zero, i.size, i.bytes)) = some (some (.int .i64 0), FI.n, 8) := by kernel_rfl

set_option maxHeartbeats 400000 in
theorem toIntS_ct (w : World) (v : Value) (l : List Int) (h : RdL FI w w.heap.size v l) (hs : l.length ≤ 1048576) :
    Calls Tryz.prog 66 #[v] w fun e w' => e = .returned (.slice (some ⟨w.heap.size, 0, none⟩) l.length l.length) ∧ OwL FI 3 w' (.slice (some ⟨w.heap.size, 0, none⟩) l.length l.length) l ∧ Below w.heap.size w w' := by
  have hmk := run_make_flat (P := Tryz.prog) FI 24 3 (.int .i64 0) 8 Tryz.underlying24 Tryz.infoInt l.length (by omega) (by omega)
  obtain ⟨A, cap, hv, _⟩ := id h
  subst hv
  go_enter Tryz.func66, Tryz.ntmps66
  go_wp2
  clear hmk
  go_loopw [4] (fun i wr => ∃ k : Nat, k ≤ l.length ∧ i = .int .i64 k ∧ OwL FI 3 wr (.slice (some ⟨w.heap.size, 0, none⟩) l.length l.length) (l.take k ++ List.replicate (l.length - k) 0) ∧ Below w.heap.size w wr) (fun i _ => l.length - (intOf i).toNat)
  case atStart => exact ⟨0, Nat.zero_le _, rfl, by simpa [FI, Value.cells] using OwL.made FI #[.int .i64 0] rfl l.length (by simp [maxLen]; omega) w 3, (Below.refl _ _).alloc (Nat.le_refl _) _⟩
  case round =>
    obtain ⟨k, hk, rfl, ho, hb⟩ := hrel
    by_cases hlt : k < l.length
    · obtain ⟨g, off, cap', he, hg, _, _, hc⟩ := (h.below hb).at_ (List.getElem?_eq_getElem hlt)
      injection he with he1 he2 he3
      subst he1 he3
      have hc0 := hc 0 _ rfl
      simp only [FI, Nat.mul_one, Nat.add_zero] at hc0
      have hf := ho.frozen_ k
      have hx := ho.cell_ (upd_get l 0 k hlt) FI.pos
      have hset := fun (y : Int) => ho.set_ (y := y) (u := .int .i64 y) (upd_get l 0 k hlt) FI.pos rfl
      simp only [FI, Nat.mul_one, Nat.add_zero] at hx
      clear hc
      go_wp2
      go_roundw
      case rel =>
        refine ⟨k + 1, by omega, by go_num, ?_, hb.setCell (by simp) _⟩
        have h1 := hset l[k]
        rw [upd_step l 0 k hlt, show k * FI.n + 0 = k by simp [FI]] at h1
        exact h1
      case measure => simp [intOf]; omega
    · go_wp2
      go_ret
      obtain rfl : k = l.length := by omega
      exact ⟨rfl, by simpa using ho, hb⟩

set_option maxHeartbeats 400000 in
theorem eqIntS_ct (w : World) (v1 v2 : Value) (l : List Int) (h1 : RdL FI w w.heap.size v1 l) (h2 : RdL FI w w.heap.size v2 l) (hs : l.length ≤ 1073741824) :
    Calls Tryz.prog 34 #[v1, v2] w fun e w' => e = .returned (.bool true) ∧ Below w.heap.size w w' := by
  obtain ⟨A1, c1, hv1, _⟩ := id h1
  obtain ⟨A2, c2, hv2, _⟩ := id h2
  subst hv1 hv2
  go_enter Tryz.func34, Tryz.ntmps34
  go_wp2
  go_loopw [5] (fun i wr => ∃ k : Nat, k ≤ l.length ∧ i = .int .i64 k ∧ Below w.heap.size w wr) (fun i _ => l.length - (intOf i).toNat)
  case atStart => exact ⟨0, Nat.zero_le _, rfl, Below.refl _ _⟩
  case round =>
    obtain ⟨k, hk, rfl, hb⟩ := hrel
    by_cases hlt : k < l.length
    · obtain ⟨g1, o1, cap1, e1, _, _, _, q1⟩ := (h1.below hb).at_ (List.getElem?_eq_getElem hlt)
      obtain ⟨g2, o2, cap2, e2, _, _, _, q2⟩ := (h2.below hb).at_ (List.getElem?_eq_getElem hlt)
      injection e1 with e11 _ e13
      injection e2 with e21 _ e23
      subst e11 e13 e21 e23
      have hc1 := q1 0 _ rfl
      have hc2 := q2 0 _ rfl
      simp only [FI, Nat.mul_one, Nat.add_zero] at hc1 hc2
      clear q1 q2
      go_wp2
      go_quiet (fail)
      go_wp2
      go_roundw
      case rel => exact ⟨k + 1, by omega, by go_num, below_drewN hb _⟩
      case measure => simp [intOf]; omega
    · go_wp2
      go_ret
      exact ⟨rfl, hb⟩
end Go.Proofs.YtkldapdpaldbgaaGreat
