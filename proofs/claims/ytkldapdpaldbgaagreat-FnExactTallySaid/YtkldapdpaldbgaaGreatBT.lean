/-
  How many slots are where: the contracts.
-/
import Derived.Test.YtkldapdpaldbgaaGreatT
import Derived.Test.YtkldapdpaldbgaaGreatL
import Derived.Deep.QuietTactic
import Derived.BigQuiet
import Derived.Deep.LoopGhost
import Derived.Deep.RegionHeld3
import Derived.Test.YtkldapdpaldbgaaGreatN
import Derived.Test.YtkldapdpaldbgaaGreatA
import Derived.WalkSpells
import Derived.Laws.Cover3
import Derived.Test.YtkldapdpaldbgaaGreatBW
namespace Go.Proofs.YtkldapdpaldbgaaGreat
open Go.RowKit

def cntB (x : Base) : Nat → List Int
  | 0 => [0, 0, 0, 0, 0]
  | k + 1 => (cntB x k).set (whereB x (k : Int)).toNat ((cntB x k).getD (whereB x (k : Int)).toNat 0 + 1)
def tallyP (x : Base) : List Int := if baseOkB x = true then cntB x 24 else [0, 0, 0, 0, 0]
theorem cntB_len (x : Base) : ∀ k, (cntB x k).length = 5
  | 0 => rfl
  | k + 1 => by simp [cntB, cntB_len x k]
theorem cntB_bd (x : Base) : ∀ (k j : Nat), 0 ≤ (cntB x k).getD j 0 ∧ (cntB x k).getD j 0 ≤ k
  | 0, j => by
    rcases j with _ | _ | _ | _ | _ | j <;> simp [cntB]
  | k + 1, j => by
    have h := cntB_bd x k j
    unfold cntB
    by_cases e : (whereB x (k : Int)).toNat = j
    · rw [e]
      by_cases hj : j < (cntB x k).length
      · have e2 : ((cntB x k).set j ((cntB x k).getD j 0 + 1)).getD j 0 = (cntB x k).getD j 0 + 1 := by
          rw [List.getD, List.getElem?_set_self hj]
          rfl
        rw [e2]
        omega
      · rw [List.set_eq_of_length_le (by omega)]
        omega
    · simp [List.getD, List.getElem?_set_ne e] at h ⊢
      omega
theorem where_bd (x : Base) (s : Int) : 0 ≤ whereB x s ∧ whereB x s ≤ 4 := by
  unfold whereB
  have := state_bd x.Mem s
  repeat' split
  all_goals omega
theorem where_nat (x : Base) (s : Int) : ∃ j : Nat, j < 5 ∧ whereB x s = (j : Int) := ⟨(whereB x s).toNat, by have := where_bd x s; omega, by have := where_bd x s; omega⟩
theorem cntB_step {x : Base} {k j : Nat} (h : whereB x (k : Int) = (j : Int)) : cntB x (k + 1) = (cntB x k).set j ((cntB x k).getD j 0 + 1) := by
  rw [cntB, h, Int.toNat_natCast]
theorem cntB_get (x : Base) (k : Nat) {j : Nat} (hj : j < 5) : (cntB x k)[j]? = some ((cntB x k).getD j 0) := by
  have := cntB_len x k
  simp [List.getD, this, hj]
theorem tally_len (x : Base) : (tallyP x).length = 5 := by
  unfold tallyP
  split
  · exact cntB_len x 24
  · rfl

set_option maxRecDepth 100000 in
set_option maxHeartbeats 2000000 in
theorem Tally_impl (w : World) (H : HBase) (x : Base) (h : RdBase w w.heap.size H x) (hs : szLL x.Limbo ≤ 536870912) :
    Calls Tryz.prog 16 #[.agg #[.slice H.Mem.Heap.Bytes.a H.Mem.Heap.Bytes.len H.Mem.Heap.Bytes.cap, .slice H.Mem.Heap.Class.a H.Mem.Heap.Class.len H.Mem.Heap.Class.cap, .slice H.Mem.Lists.Global.a H.Mem.Lists.Global.len H.Mem.Lists.Global.cap, .slice H.Mem.Lists.Own.a H.Mem.Lists.Own.len H.Mem.Lists.Own.cap, .int .i64 x.Clock.Epoch, .slice H.Clock.Pins.a H.Clock.Pins.len H.Clock.Pins.cap, .slice H.Limbo.a H.Limbo.len H.Limbo.cap, .slice H.Haz.a H.Haz.len H.Haz.cap]] w fun e w' => ∃ v', e = .returned v' ∧ OwL FI 3 w' v' (tallyP x) ∧ (∀ g ∈ foot1 v', w.heap.size ≤ g) ∧ Below w.heap.size w w' := by
  have hmk : ∀ w, (Instr.makeSlice 24 (.int .i64 5) (.int .i64 5)).run Tryz.prog w = .ok (.slice (some ⟨w.heap.size, 0, none⟩) 5 5) (w.alloc (.cells (madeCells #[.int .i64 0] (5 * FI.n)) 3)) := run_make_flat (P := Tryz.prog) FI 24 3 (.int .i64 0) 8 Tryz.underlying24 Tryz.infoInt 5 (by omega) (by omega)
  have ba0 : Box (w.alloc (.cells #[.slice H.Mem.Heap.Bytes.a H.Mem.Heap.Bytes.len H.Mem.Heap.Bytes.cap, .slice H.Mem.Heap.Class.a H.Mem.Heap.Class.len H.Mem.Heap.Class.cap, .slice H.Mem.Lists.Global.a H.Mem.Lists.Global.len H.Mem.Lists.Global.cap, .slice H.Mem.Lists.Own.a H.Mem.Lists.Own.len H.Mem.Lists.Own.cap, .int .i64 x.Clock.Epoch, .slice H.Clock.Pins.a H.Clock.Pins.len H.Clock.Pins.cap, .slice H.Limbo.a H.Limbo.len H.Limbo.cap, .slice H.Haz.a H.Haz.len H.Haz.cap] 37)) w.heap.size [.slice H.Mem.Heap.Bytes.a H.Mem.Heap.Bytes.len H.Mem.Heap.Bytes.cap, .slice H.Mem.Heap.Class.a H.Mem.Heap.Class.len H.Mem.Heap.Class.cap, .slice H.Mem.Lists.Global.a H.Mem.Lists.Global.len H.Mem.Lists.Global.cap, .slice H.Mem.Lists.Own.a H.Mem.Lists.Own.len H.Mem.Lists.Own.cap, .int .i64 x.Clock.Epoch, .slice H.Clock.Pins.a H.Clock.Pins.len H.Clock.Pins.cap, .slice H.Limbo.a H.Limbo.len H.Limbo.cap, .slice H.Haz.a H.Haz.len H.Haz.cap] := Box.new w #[.slice H.Mem.Heap.Bytes.a H.Mem.Heap.Bytes.len H.Mem.Heap.Bytes.cap, .slice H.Mem.Heap.Class.a H.Mem.Heap.Class.len H.Mem.Heap.Class.cap, .slice H.Mem.Lists.Global.a H.Mem.Lists.Global.len H.Mem.Lists.Global.cap, .slice H.Mem.Lists.Own.a H.Mem.Lists.Own.len H.Mem.Lists.Own.cap, .int .i64 x.Clock.Epoch, .slice H.Clock.Pins.a H.Clock.Pins.len H.Clock.Pins.cap, .slice H.Limbo.a H.Limbo.len H.Limbo.cap, .slice H.Haz.a H.Haz.len H.Haz.cap] _
  have hB0 : Below w.heap.size w (w.alloc (.cells #[.slice H.Mem.Heap.Bytes.a H.Mem.Heap.Bytes.len H.Mem.Heap.Bytes.cap, .slice H.Mem.Heap.Class.a H.Mem.Heap.Class.len H.Mem.Heap.Class.cap, .slice H.Mem.Lists.Global.a H.Mem.Lists.Global.len H.Mem.Lists.Global.cap, .slice H.Mem.Lists.Own.a H.Mem.Lists.Own.len H.Mem.Lists.Own.cap, .int .i64 x.Clock.Epoch, .slice H.Clock.Pins.a H.Clock.Pins.len H.Clock.Pins.cap, .slice H.Limbo.a H.Limbo.len H.Limbo.cap, .slice H.Haz.a H.Haz.len H.Haz.cap] 37)) := by repeat (first | exact Below.refl _ _ | refine Below.alloc ?_ (by simp <;> omega) _ | refine below_grow_of ?_ (by simp <;> omega) _ _ | refine Below.drew ?_ | refine below_drewN ?_ _)
  have hO0 : OwL FI 3 ((w.alloc (.cells #[.slice H.Mem.Heap.Bytes.a H.Mem.Heap.Bytes.len H.Mem.Heap.Bytes.cap, .slice H.Mem.Heap.Class.a H.Mem.Heap.Class.len H.Mem.Heap.Class.cap, .slice H.Mem.Lists.Global.a H.Mem.Lists.Global.len H.Mem.Lists.Global.cap, .slice H.Mem.Lists.Own.a H.Mem.Lists.Own.len H.Mem.Lists.Own.cap, .int .i64 x.Clock.Epoch, .slice H.Clock.Pins.a H.Clock.Pins.len H.Clock.Pins.cap, .slice H.Limbo.a H.Limbo.len H.Limbo.cap, .slice H.Haz.a H.Haz.len H.Haz.cap] 37)).alloc (.cells (madeCells #[.int .i64 0] (5 * FI.n)) 3)) (.slice (some ⟨w.heap.size + 1, 0, none⟩) 5 5) [0, 0, 0, 0, 0] := by
    have ho := OwL.made FI #[.int .i64 0] rfl 5 (by simp [maxLen]) (w.alloc (.cells #[.slice H.Mem.Heap.Bytes.a H.Mem.Heap.Bytes.len H.Mem.Heap.Bytes.cap, .slice H.Mem.Heap.Class.a H.Mem.Heap.Class.len H.Mem.Heap.Class.cap, .slice H.Mem.Lists.Global.a H.Mem.Lists.Global.len H.Mem.Lists.Global.cap, .slice H.Mem.Lists.Own.a H.Mem.Lists.Own.len H.Mem.Lists.Own.cap, .int .i64 x.Clock.Epoch, .slice H.Clock.Pins.a H.Clock.Pins.len H.Clock.Pins.cap, .slice H.Limbo.a H.Limbo.len H.Limbo.cap, .slice H.Haz.a H.Haz.len H.Haz.cap] 37)) 3
    rw [World.size_alloc] at ho
    exact ho
  have ba00 := ba0.alloc (.cells (madeCells #[.int .i64 0] (5 * FI.n)) 3)
  have hB00 := hB0.alloc hB0.size (.cells (madeCells #[.int .i64 0] (5 * FI.n)) 3)
  have kB := fun (W : World) (hW : Below w.heap.size w W) => BaseOk_impl W H x (rdBase_up h hW) hs
  have kW := fun (hsh : shapeB x.Mem.Heap = true) (s : Int) (W : World) (hW : Below w.heap.size w W) => where_impl W H x s (rdBase_up h hW) hsh hs
  clear h
  clear hB0 ba0
  by_cases k1 : baseOkB x = true
  case neg =>
    have k1' : baseOkB x = false := (Bool.not_eq_true _).mp k1
    have HN := Hid.mk_ (show tallyP x = [0, 0, 0, 0, 0] from if_neg k1)
    clear k1
    go_enter Tryz.func16, Tryz.ntmps16
    go_wp2_with fail
    clear hmk
    generalize hW0 : ((w.alloc (.cells #[.slice H.Mem.Heap.Bytes.a H.Mem.Heap.Bytes.len H.Mem.Heap.Bytes.cap, .slice H.Mem.Heap.Class.a H.Mem.Heap.Class.len H.Mem.Heap.Class.cap, .slice H.Mem.Lists.Global.a H.Mem.Lists.Global.len H.Mem.Lists.Global.cap, .slice H.Mem.Lists.Own.a H.Mem.Lists.Own.len H.Mem.Lists.Own.cap, .int .i64 x.Clock.Epoch, .slice H.Clock.Pins.a H.Clock.Pins.len H.Clock.Pins.cap, .slice H.Limbo.a H.Limbo.len H.Limbo.cap, .slice H.Haz.a H.Haz.len H.Haz.cap] 37)).alloc (.cells (madeCells #[.int .i64 0] (5 * FI.n)) 3)) = w0 at hO0 ba00 hB00 ⊢
    clear hW0
    refine (kB _ hB00).mono ?_
    rw [k1']
    rintro e w1 ⟨rfl, hb⟩
    have hO1 := hO0.keep (fun g hg => hb.block g (foot_lt hO0 g (mem_foot1.2 hg)))
    have ba1 := ba00.below hb
    have hB1 := hB00.trans (hb.mono hB00.size)
    clear hb hO0 ba00 hB00 kB k1'
    go_wp2_with fail
    go_ret
    exact ⟨_, rfl, by rw [HN.out]; exact hO1, by simp [foot1, Value.ownBlock], hB1⟩
  have HN := Hid.mk_ (show tallyP x = cntB x 24 from if_pos k1)
  have HS := Hid.mk_ (base_shape k1)
  have k1' := k1
  clear k1
  go_enter Tryz.func16, Tryz.ntmps16
  go_wp2_with fail
  clear hmk
  generalize hW0 : ((w.alloc (.cells #[.slice H.Mem.Heap.Bytes.a H.Mem.Heap.Bytes.len H.Mem.Heap.Bytes.cap, .slice H.Mem.Heap.Class.a H.Mem.Heap.Class.len H.Mem.Heap.Class.cap, .slice H.Mem.Lists.Global.a H.Mem.Lists.Global.len H.Mem.Lists.Global.cap, .slice H.Mem.Lists.Own.a H.Mem.Lists.Own.len H.Mem.Lists.Own.cap, .int .i64 x.Clock.Epoch, .slice H.Clock.Pins.a H.Clock.Pins.len H.Clock.Pins.cap, .slice H.Limbo.a H.Limbo.len H.Limbo.cap, .slice H.Haz.a H.Haz.len H.Haz.cap] 37)).alloc (.cells (madeCells #[.int .i64 0] (5 * FI.n)) 3)) = w0 at hO0 ba00 hB00 ⊢
  clear hW0
  refine (kB _ hB00).mono ?_
  rw [k1']
  rintro e w1 ⟨rfl, hb⟩
  have hO1 := hO0.keep (fun g hg => hb.block g (foot_lt hO0 g (mem_foot1.2 hg)))
  have ba1 := ba00.below hb
  have hB1 := hB00.trans (hb.mono hB00.size)
  clear hb hO0 ba00 hB00 kB k1'
  go_wp2_with fail
  go_loopw [10] (fun i wr => ∃ k : Nat, k ≤ 24 ∧ i = .int .i64 k ∧ OwL FI 3 wr (.slice (some ⟨w.heap.size + 1, 0, none⟩) 5 5) (cntB x k) ∧ Box wr w.heap.size [.slice H.Mem.Heap.Bytes.a H.Mem.Heap.Bytes.len H.Mem.Heap.Bytes.cap, .slice H.Mem.Heap.Class.a H.Mem.Heap.Class.len H.Mem.Heap.Class.cap, .slice H.Mem.Lists.Global.a H.Mem.Lists.Global.len H.Mem.Lists.Global.cap, .slice H.Mem.Lists.Own.a H.Mem.Lists.Own.len H.Mem.Lists.Own.cap, .int .i64 x.Clock.Epoch, .slice H.Clock.Pins.a H.Clock.Pins.len H.Clock.Pins.cap, .slice H.Limbo.a H.Limbo.len H.Limbo.cap, .slice H.Haz.a H.Haz.len H.Haz.cap] ∧ Below w.heap.size w wr) (fun i _ => 24 - (intOf i).toNat)
  case atStart => exact ⟨0, Nat.zero_le _, rfl, hO1, ba1, hB1⟩
  case round =>
    obtain ⟨k, hk, rfl, ho, ba, hb⟩ := hrel
    clear hO1 ba1 hB1
    by_cases hlt : k < 24
    · obtain ⟨j, hj, hst⟩ := where_nat x (k : Int)
      have HC := Hid.mk_ (cntB_step hst)
      have hcg := cntB_get x k hj
      have hbd := cntB_bd x k j
      have hq := kW HS.out (k : Int)
      rw [hst] at hq
      clear hst kW
      have qa0 := ba.cell 0 _ rfl; have qa1 := ba.cell 1 _ rfl; have qa2 := ba.cell 2 _ rfl; have qa3 := ba.cell 3 _ rfl; have qa4 := ba.cell 4 _ rfl; have qa5 := ba.cell 5 _ rfl; have qa6 := ba.cell 6 _ rfl; have qa7 := ba.cell 7 _ rfl; have hlb := ba.lt
      generalize (cntB x k).getD j 0 = v at *
      go_wp2_with fail
      refine (hq _ hb).mono ?_
      rintro e w2 ⟨rfl, hb2⟩
      have hoN := ho.keep (fun g hg => hb2.block g (foot_lt ho g (mem_foot1.2 hg)))
      have baN := ba.below hb2
      have hBN := hb.trans (hb2.mono hb.size)
      clear hb2 hq ho ba hb
      have hf := hoN.frozen_ j
      have hx := hoN.cell_ hcg FI.pos
      have hset := hoN.set_ (y := v + 1) (u := .int .i64 (v + 1)) hcg FI.pos rfl
      simp only [FI, Nat.mul_one, Nat.add_zero] at hx
      have h1 : OwL FI 3 (w2.setCell ⟨w.heap.size + 1, j, none⟩ (.int .i64 (v + 1))) (.slice (some ⟨w.heap.size + 1, 0, none⟩) 5 5) ((cntB x k).set j (v + 1)) := by
        have h1 := hset
        rw [show j * FI.n + 0 = j by simp [FI]] at h1
        exact h1
      have hj' : (j : Int) < 5 := by omega
      clear hset
      clear qa0 qa1 qa2 qa3 qa4 qa5 qa6 qa7 hcg
      go_wp2
      go_roundw
      case rel => exact ⟨k + 1, by omega, by go_num, by rw [HC.out]; exact h1, baN.other (by omega) _, hBN.setCell (by simp) _⟩
      case measure => simp [intOf]; omega
    · go_wp2
      go_ret
      obtain rfl : k = 24 := by omega
      exact ⟨_, rfl, by rw [HN.out]; exact ho, by simp [foot1, Value.ownBlock], hb⟩

set_option maxRecDepth 100000 in
set_option maxHeartbeats 2000000 in
theorem Tally_spec (w : World) (H : HBase) (x : Base) (h : RdBase w w.heap.size H x) (hs : szLL x.Limbo ≤ 536870912) (hs1 : szLL x.Mem.Lists.Global ≤ 536870912) (hs2 : szLL x.Mem.Lists.Own ≤ 536870912) :
    Calls Tryz.prog 33 #[.agg #[.slice H.Mem.Heap.Bytes.a H.Mem.Heap.Bytes.len H.Mem.Heap.Bytes.cap, .slice H.Mem.Heap.Class.a H.Mem.Heap.Class.len H.Mem.Heap.Class.cap, .slice H.Mem.Lists.Global.a H.Mem.Lists.Global.len H.Mem.Lists.Global.cap, .slice H.Mem.Lists.Own.a H.Mem.Lists.Own.len H.Mem.Lists.Own.cap, .int .i64 x.Clock.Epoch, .slice H.Clock.Pins.a H.Clock.Pins.len H.Clock.Pins.cap, .slice H.Limbo.a H.Limbo.len H.Limbo.cap, .slice H.Haz.a H.Haz.len H.Haz.cap]] w fun e w' => ∃ v', e = .returned v' ∧ OwL FI 3 w' v' (tallyP x) ∧ (∀ g ∈ foot1 v', w.heap.size ≤ g) ∧ Below w.heap.size w w' := by
  have hmk : ∀ w, (Instr.makeSlice 24 (.int .i64 5) (.int .i64 5)).run Tryz.prog w = .ok (.slice (some ⟨w.heap.size, 0, none⟩) 5 5) (w.alloc (.cells (madeCells #[.int .i64 0] (5 * FI.n)) 3)) := run_make_flat (P := Tryz.prog) FI 24 3 (.int .i64 0) 8 Tryz.underlying24 Tryz.infoInt 5 (by omega) (by omega)
  have ba0 : Box (w.alloc (.cells #[.slice H.Mem.Heap.Bytes.a H.Mem.Heap.Bytes.len H.Mem.Heap.Bytes.cap, .slice H.Mem.Heap.Class.a H.Mem.Heap.Class.len H.Mem.Heap.Class.cap, .slice H.Mem.Lists.Global.a H.Mem.Lists.Global.len H.Mem.Lists.Global.cap, .slice H.Mem.Lists.Own.a H.Mem.Lists.Own.len H.Mem.Lists.Own.cap, .int .i64 x.Clock.Epoch, .slice H.Clock.Pins.a H.Clock.Pins.len H.Clock.Pins.cap, .slice H.Limbo.a H.Limbo.len H.Limbo.cap, .slice H.Haz.a H.Haz.len H.Haz.cap] 37)) w.heap.size [.slice H.Mem.Heap.Bytes.a H.Mem.Heap.Bytes.len H.Mem.Heap.Bytes.cap, .slice H.Mem.Heap.Class.a H.Mem.Heap.Class.len H.Mem.Heap.Class.cap, .slice H.Mem.Lists.Global.a H.Mem.Lists.Global.len H.Mem.Lists.Global.cap, .slice H.Mem.Lists.Own.a H.Mem.Lists.Own.len H.Mem.Lists.Own.cap, .int .i64 x.Clock.Epoch, .slice H.Clock.Pins.a H.Clock.Pins.len H.Clock.Pins.cap, .slice H.Limbo.a H.Limbo.len H.Limbo.cap, .slice H.Haz.a H.Haz.len H.Haz.cap] := Box.new w #[.slice H.Mem.Heap.Bytes.a H.Mem.Heap.Bytes.len H.Mem.Heap.Bytes.cap, .slice H.Mem.Heap.Class.a H.Mem.Heap.Class.len H.Mem.Heap.Class.cap, .slice H.Mem.Lists.Global.a H.Mem.Lists.Global.len H.Mem.Lists.Global.cap, .slice H.Mem.Lists.Own.a H.Mem.Lists.Own.len H.Mem.Lists.Own.cap, .int .i64 x.Clock.Epoch, .slice H.Clock.Pins.a H.Clock.Pins.len H.Clock.Pins.cap, .slice H.Limbo.a H.Limbo.len H.Limbo.cap, .slice H.Haz.a H.Haz.len H.Haz.cap] _
  have hB0 : Below w.heap.size w (w.alloc (.cells #[.slice H.Mem.Heap.Bytes.a H.Mem.Heap.Bytes.len H.Mem.Heap.Bytes.cap, .slice H.Mem.Heap.Class.a H.Mem.Heap.Class.len H.Mem.Heap.Class.cap, .slice H.Mem.Lists.Global.a H.Mem.Lists.Global.len H.Mem.Lists.Global.cap, .slice H.Mem.Lists.Own.a H.Mem.Lists.Own.len H.Mem.Lists.Own.cap, .int .i64 x.Clock.Epoch, .slice H.Clock.Pins.a H.Clock.Pins.len H.Clock.Pins.cap, .slice H.Limbo.a H.Limbo.len H.Limbo.cap, .slice H.Haz.a H.Haz.len H.Haz.cap] 37)) := by repeat (first | exact Below.refl _ _ | refine Below.alloc ?_ (by simp <;> omega) _ | refine below_grow_of ?_ (by simp <;> omega) _ _ | refine Below.drew ?_ | refine below_drewN ?_ _)
  have hO0 : OwL FI 3 ((w.alloc (.cells #[.slice H.Mem.Heap.Bytes.a H.Mem.Heap.Bytes.len H.Mem.Heap.Bytes.cap, .slice H.Mem.Heap.Class.a H.Mem.Heap.Class.len H.Mem.Heap.Class.cap, .slice H.Mem.Lists.Global.a H.Mem.Lists.Global.len H.Mem.Lists.Global.cap, .slice H.Mem.Lists.Own.a H.Mem.Lists.Own.len H.Mem.Lists.Own.cap, .int .i64 x.Clock.Epoch, .slice H.Clock.Pins.a H.Clock.Pins.len H.Clock.Pins.cap, .slice H.Limbo.a H.Limbo.len H.Limbo.cap, .slice H.Haz.a H.Haz.len H.Haz.cap] 37)).alloc (.cells (madeCells #[.int .i64 0] (5 * FI.n)) 3)) (.slice (some ⟨w.heap.size + 1, 0, none⟩) 5 5) [0, 0, 0, 0, 0] := by
    have ho := OwL.made FI #[.int .i64 0] rfl 5 (by simp [maxLen]) (w.alloc (.cells #[.slice H.Mem.Heap.Bytes.a H.Mem.Heap.Bytes.len H.Mem.Heap.Bytes.cap, .slice H.Mem.Heap.Class.a H.Mem.Heap.Class.len H.Mem.Heap.Class.cap, .slice H.Mem.Lists.Global.a H.Mem.Lists.Global.len H.Mem.Lists.Global.cap, .slice H.Mem.Lists.Own.a H.Mem.Lists.Own.len H.Mem.Lists.Own.cap, .int .i64 x.Clock.Epoch, .slice H.Clock.Pins.a H.Clock.Pins.len H.Clock.Pins.cap, .slice H.Limbo.a H.Limbo.len H.Limbo.cap, .slice H.Haz.a H.Haz.len H.Haz.cap] 37)) 3
    rw [World.size_alloc] at ho
    exact ho
  have ba00 := ba0.alloc (.cells (madeCells #[.int .i64 0] (5 * FI.n)) 3)
  have hB00 := hB0.alloc hB0.size (.cells (madeCells #[.int .i64 0] (5 * FI.n)) 3)
  have kB := fun (W : World) (hW : Below w.heap.size w W) => BaseOk_spec W H x (rdBase_up h hW) hs hs1 hs2
  have kW := fun (hsh : shapeB x.Mem.Heap = true) (s : Int) (W : World) (hW : Below w.heap.size w W) => l13Where_spec W H x s (rdBase_up h hW) hsh hs hs1 hs2
  clear h
  clear hB0 ba0
  by_cases k1 : baseOkB x = true
  case neg =>
    have k1' : baseOkB x = false := (Bool.not_eq_true _).mp k1
    have HN := Hid.mk_ (show tallyP x = [0, 0, 0, 0, 0] from if_neg k1)
    clear k1
    go_enter Tryz.func33, Tryz.ntmps33
    go_wp2_with fail
    clear hmk
    generalize hW0 : ((w.alloc (.cells #[.slice H.Mem.Heap.Bytes.a H.Mem.Heap.Bytes.len H.Mem.Heap.Bytes.cap, .slice H.Mem.Heap.Class.a H.Mem.Heap.Class.len H.Mem.Heap.Class.cap, .slice H.Mem.Lists.Global.a H.Mem.Lists.Global.len H.Mem.Lists.Global.cap, .slice H.Mem.Lists.Own.a H.Mem.Lists.Own.len H.Mem.Lists.Own.cap, .int .i64 x.Clock.Epoch, .slice H.Clock.Pins.a H.Clock.Pins.len H.Clock.Pins.cap, .slice H.Limbo.a H.Limbo.len H.Limbo.cap, .slice H.Haz.a H.Haz.len H.Haz.cap] 37)).alloc (.cells (madeCells #[.int .i64 0] (5 * FI.n)) 3)) = w0 at hO0 ba00 hB00 ⊢
    clear hW0
    refine (kB _ hB00).mono ?_
    rw [k1']
    rintro e w1 ⟨rfl, hb⟩
    have hO1 := hO0.keep (fun g hg => hb.block g (foot_lt hO0 g (mem_foot1.2 hg)))
    have ba1 := ba00.below hb
    have hB1 := hB00.trans (hb.mono hB00.size)
    clear hb hO0 ba00 hB00 kB k1'
    go_wp2_with fail
    go_loopw [5] (fun i wr => i = .int .i64 0 ∧ OwL FI 3 wr (.slice (some ⟨w.heap.size + 1, 0, none⟩) 5 5) [0, 0, 0, 0, 0] ∧ Below w.heap.size w wr) (fun _ _ => 0)
    case atStart => exact ⟨rfl, hO1, hB1⟩
    case round =>
      obtain ⟨rfl, ho, hb⟩ := hrel
      go_wp2_with fail
      go_ret
      exact ⟨_, rfl, by rw [HN.out]; exact ho, by simp [foot1, Value.ownBlock], hb⟩
  have HN := Hid.mk_ (show tallyP x = cntB x 24 from if_pos k1)
  have HS := Hid.mk_ (base_shape k1)
  have k1' := k1
  clear k1
  go_enter Tryz.func33, Tryz.ntmps33
  go_wp2_with fail
  clear hmk
  generalize hW0 : ((w.alloc (.cells #[.slice H.Mem.Heap.Bytes.a H.Mem.Heap.Bytes.len H.Mem.Heap.Bytes.cap, .slice H.Mem.Heap.Class.a H.Mem.Heap.Class.len H.Mem.Heap.Class.cap, .slice H.Mem.Lists.Global.a H.Mem.Lists.Global.len H.Mem.Lists.Global.cap, .slice H.Mem.Lists.Own.a H.Mem.Lists.Own.len H.Mem.Lists.Own.cap, .int .i64 x.Clock.Epoch, .slice H.Clock.Pins.a H.Clock.Pins.len H.Clock.Pins.cap, .slice H.Limbo.a H.Limbo.len H.Limbo.cap, .slice H.Haz.a H.Haz.len H.Haz.cap] 37)).alloc (.cells (madeCells #[.int .i64 0] (5 * FI.n)) 3)) = w0 at hO0 ba00 hB00 ⊢
  clear hW0
  refine (kB _ hB00).mono ?_
  rw [k1']
  rintro e w1 ⟨rfl, hb⟩
  have hO1 := hO0.keep (fun g hg => hb.block g (foot_lt hO0 g (mem_foot1.2 hg)))
  have ba1 := ba00.below hb
  have hB1 := hB00.trans (hb.mono hB00.size)
  clear hb hO0 ba00 hB00 kB k1'
  go_wp2_with fail
  go_loopw [5] (fun i wr => ∃ k : Nat, k ≤ 24 ∧ i = .int .i64 k ∧ OwL FI 3 wr (.slice (some ⟨w.heap.size + 1, 0, none⟩) 5 5) (cntB x k) ∧ Box wr w.heap.size [.slice H.Mem.Heap.Bytes.a H.Mem.Heap.Bytes.len H.Mem.Heap.Bytes.cap, .slice H.Mem.Heap.Class.a H.Mem.Heap.Class.len H.Mem.Heap.Class.cap, .slice H.Mem.Lists.Global.a H.Mem.Lists.Global.len H.Mem.Lists.Global.cap, .slice H.Mem.Lists.Own.a H.Mem.Lists.Own.len H.Mem.Lists.Own.cap, .int .i64 x.Clock.Epoch, .slice H.Clock.Pins.a H.Clock.Pins.len H.Clock.Pins.cap, .slice H.Limbo.a H.Limbo.len H.Limbo.cap, .slice H.Haz.a H.Haz.len H.Haz.cap] ∧ Below w.heap.size w wr) (fun i _ => 24 - (intOf i).toNat)
  case atStart => exact ⟨0, Nat.zero_le _, rfl, hO1, ba1, hB1⟩
  case round =>
    obtain ⟨k, hk, rfl, ho, ba, hb⟩ := hrel
    clear hO1 ba1 hB1
    by_cases hlt : k < 24
    · obtain ⟨j, hj, hst⟩ := where_nat x (k : Int)
      have HC := Hid.mk_ (cntB_step hst)
      have hcg := cntB_get x k hj
      have hbd := cntB_bd x k j
      have hq := kW HS.out (k : Int)
      rw [hst] at hq
      clear hst kW
      have qa0 := ba.cell 0 _ rfl; have qa1 := ba.cell 1 _ rfl; have qa2 := ba.cell 2 _ rfl; have qa3 := ba.cell 3 _ rfl; have qa4 := ba.cell 4 _ rfl; have qa5 := ba.cell 5 _ rfl; have qa6 := ba.cell 6 _ rfl; have qa7 := ba.cell 7 _ rfl; have hlb := ba.lt
      generalize (cntB x k).getD j 0 = v at *
      go_wp2_with fail
      refine (hq _ hb).mono ?_
      rintro e w2 ⟨rfl, hb2⟩
      have hoN := ho.keep (fun g hg => hb2.block g (foot_lt ho g (mem_foot1.2 hg)))
      have baN := ba.below hb2
      have hBN := hb.trans (hb2.mono hb.size)
      clear hb2 hq ho ba hb
      have hf := hoN.frozen_ j
      have hx := hoN.cell_ hcg FI.pos
      have hset := hoN.set_ (y := v + 1) (u := .int .i64 (v + 1)) hcg FI.pos rfl
      simp only [FI, Nat.mul_one, Nat.add_zero] at hx
      have h1 : OwL FI 3 (w2.setCell ⟨w.heap.size + 1, j, none⟩ (.int .i64 (v + 1))) (.slice (some ⟨w.heap.size + 1, 0, none⟩) 5 5) ((cntB x k).set j (v + 1)) := by
        have h1 := hset
        rw [show j * FI.n + 0 = j by simp [FI]] at h1
        exact h1
      have hj' : (j : Int) < 5 := by omega
      clear hset
      clear qa0 qa1 qa2 qa3 qa4 qa5 qa6 qa7 hcg
      go_wp2
      go_roundw
      case rel => exact ⟨k + 1, by omega, by go_num, by rw [HC.out]; exact h1, baN.other (by omega) _, hBN.setCell (by simp) _⟩
      case measure => simp [intOf]; omega
    · go_wp2
      go_ret
      obtain rfl : k = 24 := by omega
      exact ⟨_, rfl, by rw [HN.out]; exact ho, by simp [foot1, Value.ownBlock], hb⟩
end Go.Proofs.YtkldapdpaldbgaaGreat
