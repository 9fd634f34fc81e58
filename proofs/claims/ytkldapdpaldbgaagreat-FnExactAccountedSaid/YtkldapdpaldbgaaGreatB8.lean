/-
  Lists of lists put one behind the other: slices.Grow, slices.Concat.
-/
import Derived.Test.YtkldapdpaldbgaaGreatT
import Derived.Test.YtkldapdpaldbgaaGreatL
import Derived.Deep.QuietTactic
import Derived.BigQuiet
import Derived.Deep.LoopGhost
import Derived.Deep.RegionHeld3
import Derived.Test.YtkldapdpaldbgaaGreatN
import Derived.Test.YtkldapdpaldbgaaGreatA
import Derived.WalkSpells
import Derived.Laws.Cover3
import Derived.Test.YtkldapdpaldbgaaGreatB7
import Derived.Test.YtkldapdpaldbgaaGreatBX
import Derived.Lib.AppendZerosOnto
import Derived.Lib.SliceRun
import Derived.Lib.Walk
namespace Go.Proofs.YtkldapdpaldbgaaGreat
open Go.RowKit
theorem Tryz.infoSL : (Tryz.prog.info? 163).map (fun i => (i.zero, i.size, i.bytes)) = some (some (.agg #[.slice none 0 0]), FS.n, 24) := by kernel_rfl
theorem Tryz.stSL : ST Tryz.prog FS 27 163 := ⟨Tryz.underlying27, .agg #[.slice none 0 0], 24, by kernel_rfl, rfl, by decide⟩
set_option maxRecDepth 100000 in
set_option maxHeartbeats 1000000 in
theorem GrowSL_ct (w : World) (n : Nat) (hn : 0 < n) (hn2 : n ≤ 1000) :
    Calls Tryz.prog 281 #[.slice none 0 0, .int .i64 n] w fun e w' => ∃ v, e = .returned v ∧ OwL FS 163 w' v [] ∧ (∀ g ∈ foot1 v, w.heap.size ≤ g) ∧ Below w.heap.size w w' := by
  obtain ⟨i, hi, hzz⟩ := Option.map_eq_some_iff.1 Tryz.infoSL
  simp only [Prod.mk.injEq] at hzz
  obtain ⟨q1, q2, q3⟩ := hzz
  have hrz : ∀ ty, (Builtin.append_ #[27, 3] ty #[.slice none 0 0, .int .i64 (n : Int)]).run Tryz.prog w =
      .ok (.slice (some ⟨w.heap.size, 0, none⟩) n (grownCap w n 0 163)) (w.drew.alloc (.cells (Builtin.zeroCells #[.slice none 0 0] n ++ Builtin.zeroCells #[.slice none 0 0] (grownCap w n 0 163 - n)) 163)) := fun ty => by
    have h := Lib.run_append_grow_zeros w 27 3 ty 163 i _ .i64 .i64 Tryz.underlying27 Tryz.underlying3 hi q1 none 0 0 [] (run_firstCells_none w.drew i.size 0 0 0) n hn (by rw [q2]; decide) (by omega) (by omega) (by rw [q3]; omega) (by rw [q3]; exact growslice_fits (by omega) (by omega))
    simpa [Value.cells] using h
  have hG0 := grownCap_ge w n 0 163
  have hGm := grownCap_le_maxLen w n 0 163 (by unfold maxLen; omega)
  generalize grownCap w n 0 163 = G at hrz hG0 hGm
  have hG1 : G ≤ 9223372036854775807 := by unfold maxLen at hGm; omega
  have how := World.ownsRow_made (base := 0) (e := 163) (size := 1) w.drew (Builtin.zeroCells #[.slice none 0 0] n ++ Builtin.zeroCells #[.slice none 0 0] (G - n)) G (Nat.zero_le _) hGm (by simp [Builtin.zeroCells]; omega)
  have hGn : ¬ (n : Int) ≤ 0 := by omega
  clear hi q1 q2 q3 hGm
  go_enter Tryz.func281, Tryz.ntmps281
  go_wp2_with (at_builtin; refine Lib.wpList_append_run _ rfl _ _ _ _ rfl _ _ rfl rfl _ _ (hrz _) ?_)
  go_ret
  refine ⟨_, rfl, ?_, ?_, ?_⟩
  · unfold OwL
    exact how
  · simp [foot1, Value.ownBlock]
  · exact Below.alloc (Below.drew (Below.refl _ _)) (by simp) _
theorem below_app {w w' : World} {B : Nat} (h : Below B w w') (hB : B ≤ w.heap.size) (v : Value) (w2 : World) (hg : w'.grownBy w2 v.ownBlock) (hf : ∀ g ∈ foot1 v, B ≤ g) : Below B w w2   := h.grown hg (Nat.le_trans hB h.size) (fun k hk => hf k (mem_foot1.2 hk))
set_option maxRecDepth 100000 in
set_option maxHeartbeats 1000000 in
theorem ConcatSL_ct (w : World) (gb : Nat) (A1 A2 : Option Addr) (c1 c2 : Nat) (T1 T2 : List SV) (bb : Box w gb [.slice A1 9 c1, .slice A2 3 c2]) (h1 : RdL FS w w.heap.size (.slice A1 9 c1) T1) (h2 : RdL FS w w.heap.size (.slice A2 3 c2) T2) :
    Calls Tryz.prog 240 #[.slice (some ⟨gb, 0, none⟩) 2 2] w fun e w' => ∃ v, e = .returned v ∧ OwL FS 163 w' v (T1 ++ T2) ∧ (∀ g ∈ foot1 v, w.heap.size ≤ g) ∧ Below w.heap.size w w' := by
  have l1 := (RdL.len_ h1).1
  have l2 := (RdL.len_ h2).1
  have p0 := bb.cell 0 _ rfl
  have p1 := bb.cell 1 _ rfl
  have plt := bb.lt
  have HL1 := Hid.mk_ l1
  have HL2 := Hid.mk_ l2
  clear l1 l2
  go_enter Tryz.func240, Tryz.ntmps240
  go_wp2
  go_loop [3, 5, 11] (fun s _ i => ∃ k : Nat, k ≤ 2 ∧ i = .int .i64 k ∧ s = .int .i64 (if k = 0 then 0 else if k = 1 then 9 else 12)) (fun _ _ i => 2 - (intOf i).toNat)
  case atStart => exact ⟨0, by omega, rfl, rfl⟩
  case round =>
    obtain ⟨k, hk, rfl, rfl⟩ := hrel
    rcases (show k = 0 ∨ k = 1 ∨ k = 2 by omega) with rfl | rfl | rfl
    · go_wp2
      go_round
      case rel => exact ⟨1, by omega, rfl, rfl⟩
      case measure => simp [intOf]
    · go_wp2
      go_round
      case rel => exact ⟨2, by omega, rfl, rfl⟩
      case measure => simp [intOf]
    · go_wp2_with fail
      refine (GrowSL_ct _ 12 (by decide) (by decide)).mono ?_
      rintro e w1 ⟨v1, rfl, ho, hf, hb⟩
      clear p0 p1
      go_wp2
      go_loopw [6, 8, 27] (fun o _ i wr => ∃ k : Nat, k ≤ 2 ∧ i = .int .i64 k ∧ OwL FS 163 wr o (if k = 0 then [] else if k = 1 then T1 else T1 ++ T2) ∧ (∀ g ∈ foot1 o, w.heap.size ≤ g) ∧ Below w.heap.size w wr) (fun _ _ i _ => 2 - (intOf i).toNat)
      case atStart => exact ⟨0, by omega, rfl, ho, hf, hb⟩
      case round =>
        obtain ⟨k, hk, rfl, ho, hf, hb⟩ := hrel
        have bw := bb.below hb
        have p0 := bw.cell 0 _ rfl
        have p1 := bw.cell 1 _ rfl
        have zl := bw.lt
        rcases (show k = 0 ∨ k = 1 ∨ k = 2 by omega) with rfl | rfl | rfl
        · go_wp2_with (at_builtin; refine wpList_append_flat Tryz.stSL rfl _ _ rfl (v := u6) (y := .slice A1 9 c1) (l := []) (m := T1) rfl rfl ho (rd_up h1 hb) (by simp; rw [← HL1.out]; omega) ?_; intro v' w3 ho' hg' hat')
          go_roundw
          case rel => exact ⟨1, by omega, rfl, by simpa using ho', fun g hg => by rcases foot_app hat' g hg with h | h; (exact hf g h); (have := hb.size; omega), below_app hb (Nat.le_refl _) _ _ hg' hf⟩
          case measure => simp [intOf]
        · go_wp2_with (at_builtin; refine wpList_append_flat Tryz.stSL rfl _ _ rfl (v := u6) (y := .slice A2 3 c2) (l := T1) (m := T2) rfl rfl ho (rd_up h2 hb) (by rw [← HL1.out, ← HL2.out]; omega) ?_; intro v' w3 ho' hg' hat')
          go_roundw
          case rel => exact ⟨2, by omega, rfl, ho', fun g hg => by rcases foot_app hat' g hg with h | h; (exact hf g h); (have := hb.size; omega), below_app hb (Nat.le_refl _) _ _ hg' hf⟩
          case measure => simp [intOf]
        · go_wp2
          go_ret
          exact ⟨_, rfl, ho, hf, hb⟩
end Go.Proofs.YtkldapdpaldbgaaGreat
