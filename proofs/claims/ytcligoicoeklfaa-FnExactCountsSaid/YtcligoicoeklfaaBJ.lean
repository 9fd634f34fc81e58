/-
  How many slots are in each state: the contracts.
-/
import Derived.Test.YtcligoicoeklfaaT
import Derived.Test.YtcligoicoeklfaaL
import Derived.Deep.QuietTactic
import Derived.BigQuiet
import Derived.Deep.LoopGhost
import Derived.Deep.RegionHeld3
import Derived.Test.YtcligoicoeklfaaN
import Derived.Test.YtcligoicoeklfaaA
import Derived.WalkSpells
import Derived.Laws.Cover3
import Derived.Test.YtcligoicoeklfaaBI
namespace Go.Proofs.Ytcligoicoeklfaa
open Go.RowKit
def cntTo (m : Mem) : Nat → List Int
  | 0 => [0, 0, 0, 0]
  | k + 1 => (cntTo m k).set (stateB m (k : Int)).toNat ((cntTo m k).getD (stateB m (k : Int)).toNat 0 + 1)
def countsP (m : Mem) : List Int := if memOkB m = true then cntTo m 24 else [0, 0, 0, 0]
theorem cntTo_len (m : Mem) : ∀ k, (cntTo m k).length = 4
  | 0 => rfl
  | k + 1 => by simp [cntTo, cntTo_len m k]
theorem cntTo_bd (m : Mem) : ∀ (k j : Nat), 0 ≤ (cntTo m k).getD j 0 ∧ (cntTo m k).getD j 0 ≤ k
  | 0, j => by
    rcases j with _ | _ | _ | _ | j <;> simp [cntTo]
  | k + 1, j => by
    have h := cntTo_bd m k j
    unfold cntTo
    by_cases e : (stateB m (k : Int)).toNat = j
    · rw [e]
      by_cases hj : j < (cntTo m k).length
      · have e2 : ((cntTo m k).set j ((cntTo m k).getD j 0 + 1)).getD j 0 = (cntTo m k).getD j 0 + 1 := by
          rw [List.getD, List.getElem?_set_self hj]
          rfl
        rw [e2]
        omega
      · rw [List.set_eq_of_length_le (by omega)]
        omega
    · simp [List.getD, List.getElem?_set_ne e] at h ⊢
      omega
theorem state_nat (m : Mem) (s : Int) : ∃ j : Nat, j < 4 ∧ stateB m s = (j : Int) := by
  rcases state_bd m s with h | h | h | h
  · exact ⟨0, by omega, h⟩
  · exact ⟨1, by omega, h⟩
  · exact ⟨2, by omega, h⟩
  · exact ⟨3, by omega, h⟩
theorem cntTo_step {m : Mem} {k j : Nat} (h : stateB m (k : Int) = (j : Int)) : cntTo m (k + 1) = (cntTo m k).set j ((cntTo m k).getD j 0 + 1) := by
  rw [cntTo, h, Int.toNat_natCast]
theorem cntTo_get (m : Mem) (k : Nat) {j : Nat} (hj : j < 4) : (cntTo m k)[j]? = some ((cntTo m k).getD j 0) := by
  have := cntTo_len m k
  simp [List.getD, this, hj]
theorem counts_len (m : Mem) : (countsP m).length = 4 := by
  unfold countsP
  split
  · exact cntTo_len m 24
  · rfl
set_option maxRecDepth 100000 in
set_option maxHeartbeats 2000000 in
theorem Counts_impl (w : World) (H : HMem) (x : Mem) (h : RdMem w w.heap.size H x) :
    Calls Try.prog 22 #[.agg #[.slice H.Heap.Bytes.a H.Heap.Bytes.len H.Heap.Bytes.cap, .slice H.Heap.Class.a H.Heap.Class.len H.Heap.Class.cap, .slice H.Lists.Global.a H.Lists.Global.len H.Lists.Global.cap, .slice H.Lists.Own.a H.Lists.Own.len H.Lists.Own.cap]] w fun e w' => ∃ v', e = .returned v' ∧ OwL FI 3 w' v' (countsP x) ∧ (∀ g ∈ foot1 v', w.heap.size ≤ g) ∧ Below w.heap.size w w' := by
  have hmk : ∀ w, (Instr.makeSlice 22 (.int .i64 4) (.int .i64 4)).run Try.prog w = .ok (.slice (some ⟨w.heap.size, 0, none⟩) 4 4) (w.alloc (.cells (madeCells #[.int .i64 0] (4 * FI.n)) 3)) := run_make_flat (P := Try.prog) FI 22 3 (.int .i64 0) 8 Try.underlying22 Try.infoInt 4 (by omega) (by omega)
  have ba0 : Box (w.alloc (.cells #[.slice H.Heap.Bytes.a H.Heap.Bytes.len H.Heap.Bytes.cap, .slice H.Heap.Class.a H.Heap.Class.len H.Heap.Class.cap, .slice H.Lists.Global.a H.Lists.Global.len H.Lists.Global.cap, .slice H.Lists.Own.a H.Lists.Own.len H.Lists.Own.cap] 37)) w.heap.size [.slice H.Heap.Bytes.a H.Heap.Bytes.len H.Heap.Bytes.cap, .slice H.Heap.Class.a H.Heap.Class.len H.Heap.Class.cap, .slice H.Lists.Global.a H.Lists.Global.len H.Lists.Global.cap, .slice H.Lists.Own.a H.Lists.Own.len H.Lists.Own.cap] := Box.new w #[.slice H.Heap.Bytes.a H.Heap.Bytes.len H.Heap.Bytes.cap, .slice H.Heap.Class.a H.Heap.Class.len H.Heap.Class.cap, .slice H.Lists.Global.a H.Lists.Global.len H.Lists.Global.cap, .slice H.Lists.Own.a H.Lists.Own.len H.Lists.Own.cap] _
  have hB0 : Below w.heap.size w (w.alloc (.cells #[.slice H.Heap.Bytes.a H.Heap.Bytes.len H.Heap.Bytes.cap, .slice H.Heap.Class.a H.Heap.Class.len H.Heap.Class.cap, .slice H.Lists.Global.a H.Lists.Global.len H.Lists.Global.cap, .slice H.Lists.Own.a H.Lists.Own.len H.Lists.Own.cap] 37)) := by repeat (first | exact Below.refl _ _ | refine Below.alloc ?_ (by simp <;> omega) _ | refine below_grow_of ?_ (by simp <;> omega) _ _ | refine Below.drew ?_ | refine below_drewN ?_ _)
  have hO0 : OwL FI 3 ((w.alloc (.cells #[.slice H.Heap.Bytes.a H.Heap.Bytes.len H.Heap.Bytes.cap, .slice H.Heap.Class.a H.Heap.Class.len H.Heap.Class.cap, .slice H.Lists.Global.a H.Lists.Global.len H.Lists.Global.cap, .slice H.Lists.Own.a H.Lists.Own.len H.Lists.Own.cap] 37)).alloc (.cells (madeCells #[.int .i64 0] (4 * FI.n)) 3)) (.slice (some ⟨w.heap.size + 1, 0, none⟩) 4 4) [0, 0, 0, 0] := by
    have ho := OwL.made FI #[.int .i64 0] rfl 4 (by simp [maxLen]) (w.alloc (.cells #[.slice H.Heap.Bytes.a H.Heap.Bytes.len H.Heap.Bytes.cap, .slice H.Heap.Class.a H.Heap.Class.len H.Heap.Class.cap, .slice H.Lists.Global.a H.Lists.Global.len H.Lists.Global.cap, .slice H.Lists.Own.a H.Lists.Own.len H.Lists.Own.cap] 37)) 3
    rw [World.size_alloc] at ho
    exact ho
  have ba00 := ba0.alloc (.cells (madeCells #[.int .i64 0] (4 * FI.n)) 3)
  have hB00 := hB0.alloc hB0.size (.cells (madeCells #[.int .i64 0] (4 * FI.n)) 3)
  by_cases k1 : memOkB x = true
  case neg =>
    have k1' : memOkB x = false := (Bool.not_eq_true _).mp k1
    have HN := Hid.mk_ (show countsP x = [0, 0, 0, 0] from if_neg k1)
    clear k1
    go_enter Try.func22, Try.ntmps22
    go_wp2_with fail
    clear hmk
    generalize hW0 : ((w.alloc (.cells #[.slice H.Heap.Bytes.a H.Heap.Bytes.len H.Heap.Bytes.cap, .slice H.Heap.Class.a H.Heap.Class.len H.Heap.Class.cap, .slice H.Lists.Global.a H.Lists.Global.len H.Lists.Global.cap, .slice H.Lists.Own.a H.Lists.Own.len H.Lists.Own.cap] 37)).alloc (.cells (madeCells #[.int .i64 0] (4 * FI.n)) 3)) = w0 at hO0 ba00 hB00 ⊢
    clear hW0
    refine (MemOk_impl _ H x (rdMem_up h hB00)).mono ?_
    rw [k1']
    rintro e w1 ⟨rfl, hb⟩
    have hO1 := hO0.keep (fun g hg => hb.block g (foot_lt hO0 g (mem_foot1.2 hg)))
    have hB1 := hB00.trans (hb.mono hB00.size)
    clear hb ba0 hB0
    go_wp2
    go_ret
    exact ⟨_, rfl, by rw [HN.out]; exact hO1, by simp [foot1, Value.ownBlock], hB1⟩
  have HN := Hid.mk_ (show countsP x = cntTo x 24 from if_pos k1)
  have HS := Hid.mk_ (mem_shape k1)
  go_enter Try.func22, Try.ntmps22
  go_wp2_with fail
  clear hmk
  generalize hW0 : ((w.alloc (.cells #[.slice H.Heap.Bytes.a H.Heap.Bytes.len H.Heap.Bytes.cap, .slice H.Heap.Class.a H.Heap.Class.len H.Heap.Class.cap, .slice H.Lists.Global.a H.Lists.Global.len H.Lists.Global.cap, .slice H.Lists.Own.a H.Lists.Own.len H.Lists.Own.cap] 37)).alloc (.cells (madeCells #[.int .i64 0] (4 * FI.n)) 3)) = w0 at hO0 ba00 hB00 ⊢
  clear hW0
  refine (MemOk_impl _ H x (rdMem_up h hB00)).mono ?_
  rw [k1]
  rintro e w1 ⟨rfl, hb⟩
  have hO1 := hO0.keep (fun g hg => hb.block g (foot_lt hO0 g (mem_foot1.2 hg)))
  have ba1 := ba00.below hb
  have hB1 := hB00.trans (hb.mono hB00.size)
  clear hb ba0 hB0 hO0 ba00 hB00 k1
  go_wp2_with fail
  go_loopw [10] (fun i wr => ∃ k : Nat, k ≤ 24 ∧ i = .int .i64 k ∧ OwL FI 3 wr (.slice (some ⟨w.heap.size + 1, 0, none⟩) 4 4) (cntTo x k) ∧ Box wr w.heap.size [.slice H.Heap.Bytes.a H.Heap.Bytes.len H.Heap.Bytes.cap, .slice H.Heap.Class.a H.Heap.Class.len H.Heap.Class.cap, .slice H.Lists.Global.a H.Lists.Global.len H.Lists.Global.cap, .slice H.Lists.Own.a H.Lists.Own.len H.Lists.Own.cap] ∧ Below w.heap.size w wr) (fun i _ => 24 - (intOf i).toNat)
  case atStart => exact ⟨0, Nat.zero_le _, rfl, hO1, ba1, hB1⟩
  case round =>
    obtain ⟨k, hk, rfl, ho, ba, hb⟩ := hrel
    clear hO1 ba1 hB1
    by_cases hlt : k < 24
    · obtain ⟨j, hj, hst⟩ := state_nat x (k : Int)
      have HC := Hid.mk_ (cntTo_step hst)
      have hcg := cntTo_get x k hj
      have hbd := cntTo_bd x k j
      have hq := fun (W : World) (hW : Below w.heap.size w W) => stateOf_impl W H x k (rdMem_up h hW) HS.out
      rw [hst] at hq
      clear hst
      have qa0 := ba.cell 0 _ rfl
      have qa1 := ba.cell 1 _ rfl
      have qa2 := ba.cell 2 _ rfl
      have qa3 := ba.cell 3 _ rfl
      have hlb := ba.lt
      generalize (cntTo x k).getD j 0 = v at *
      go_wp2_with fail
      refine (hq _ hb).mono ?_
      rintro e w2 ⟨rfl, hb2⟩
      have hoN := ho.keep (fun g hg => hb2.block g (foot_lt ho g (mem_foot1.2 hg)))
      have baN := ba.below hb2
      have hBN := hb.trans (hb2.mono hb.size)
      clear hb2 hq ho ba hb
      have hf := hoN.frozen_ j
      have hx := hoN.cell_ hcg FI.pos
      have hset := hoN.set_ (y := v + 1) (u := .int .i64 (v + 1)) hcg FI.pos rfl
      simp only [FI, Nat.mul_one, Nat.add_zero] at hx
      have h1 : OwL FI 3 (w2.setCell ⟨w.heap.size + 1, j, none⟩ (.int .i64 (v + 1))) (.slice (some ⟨w.heap.size + 1, 0, none⟩) 4 4) ((cntTo x k).set j (v + 1)) := by
        have h1 := hset
        rw [show j * FI.n + 0 = j by simp [FI]] at h1
        exact h1
      have hj' : (j : Int) < 4 := by omega
      clear hset
      clear qa0 qa1 qa2 qa3 hcg
      go_wp2
      go_roundw
      case rel => exact ⟨k + 1, by omega, by go_num, by rw [HC.out]; exact h1, baN.other (by omega) _, hBN.setCell (by simp) _⟩
      case measure => simp [intOf]; omega
    · go_wp2
      go_ret
      obtain rfl : k = 24 := by omega
      exact ⟨_, rfl, by rw [HN.out]; exact ho, by simp [foot1, Value.ownBlock], hb⟩
set_option maxRecDepth 100000 in
set_option maxHeartbeats 2000000 in
theorem Counts_spec (w : World) (H : HMem) (x : Mem) (h : RdMem w w.heap.size H x) (hs1 : szLL x.Lists.Global ≤ 536870912) (hs2 : szLL x.Lists.Own ≤ 536870912) :
    Calls Try.prog 21 #[.agg #[.slice H.Heap.Bytes.a H.Heap.Bytes.len H.Heap.Bytes.cap, .slice H.Heap.Class.a H.Heap.Class.len H.Heap.Class.cap, .slice H.Lists.Global.a H.Lists.Global.len H.Lists.Global.cap, .slice H.Lists.Own.a H.Lists.Own.len H.Lists.Own.cap]] w fun e w' => ∃ v', e = .returned v' ∧ OwL FI 3 w' v' (countsP x) ∧ (∀ g ∈ foot1 v', w.heap.size ≤ g) ∧ Below w.heap.size w w' := by
  have hmk : ∀ w, (Instr.makeSlice 22 (.int .i64 4) (.int .i64 4)).run Try.prog w = .ok (.slice (some ⟨w.heap.size, 0, none⟩) 4 4) (w.alloc (.cells (madeCells #[.int .i64 0] (4 * FI.n)) 3)) := run_make_flat (P := Try.prog) FI 22 3 (.int .i64 0) 8 Try.underlying22 Try.infoInt 4 (by omega) (by omega)
  have ba0 : Box (w.alloc (.cells #[.slice H.Heap.Bytes.a H.Heap.Bytes.len H.Heap.Bytes.cap, .slice H.Heap.Class.a H.Heap.Class.len H.Heap.Class.cap, .slice H.Lists.Global.a H.Lists.Global.len H.Lists.Global.cap, .slice H.Lists.Own.a H.Lists.Own.len H.Lists.Own.cap] 37)) w.heap.size [.slice H.Heap.Bytes.a H.Heap.Bytes.len H.Heap.Bytes.cap, .slice H.Heap.Class.a H.Heap.Class.len H.Heap.Class.cap, .slice H.Lists.Global.a H.Lists.Global.len H.Lists.Global.cap, .slice H.Lists.Own.a H.Lists.Own.len H.Lists.Own.cap] := Box.new w #[.slice H.Heap.Bytes.a H.Heap.Bytes.len H.Heap.Bytes.cap, .slice H.Heap.Class.a H.Heap.Class.len H.Heap.Class.cap, .slice H.Lists.Global.a H.Lists.Global.len H.Lists.Global.cap, .slice H.Lists.Own.a H.Lists.Own.len H.Lists.Own.cap] _
  have hB0 : Below w.heap.size w (w.alloc (.cells #[.slice H.Heap.Bytes.a H.Heap.Bytes.len H.Heap.Bytes.cap, .slice H.Heap.Class.a H.Heap.Class.len H.Heap.Class.cap, .slice H.Lists.Global.a H.Lists.Global.len H.Lists.Global.cap, .slice H.Lists.Own.a H.Lists.Own.len H.Lists.Own.cap] 37)) := by repeat (first | exact Below.refl _ _ | refine Below.alloc ?_ (by simp <;> omega) _ | refine below_grow_of ?_ (by simp <;> omega) _ _ | refine Below.drew ?_ | refine below_drewN ?_ _)
  have hO0 : OwL FI 3 ((w.alloc (.cells #[.slice H.Heap.Bytes.a H.Heap.Bytes.len H.Heap.Bytes.cap, .slice H.Heap.Class.a H.Heap.Class.len H.Heap.Class.cap, .slice H.Lists.Global.a H.Lists.Global.len H.Lists.Global.cap, .slice H.Lists.Own.a H.Lists.Own.len H.Lists.Own.cap] 37)).alloc (.cells (madeCells #[.int .i64 0] (4 * FI.n)) 3)) (.slice (some ⟨w.heap.size + 1, 0, none⟩) 4 4) [0, 0, 0, 0] := by
    have ho := OwL.made FI #[.int .i64 0] rfl 4 (by simp [maxLen]) (w.alloc (.cells #[.slice H.Heap.Bytes.a H.Heap.Bytes.len H.Heap.Bytes.cap, .slice H.Heap.Class.a H.Heap.Class.len H.Heap.Class.cap, .slice H.Lists.Global.a H.Lists.Global.len H.Lists.Global.cap, .slice H.Lists.Own.a H.Lists.Own.len H.Lists.Own.cap] 37)) 3
    rw [World.size_alloc] at ho
    exact ho
  have ba00 := ba0.alloc (.cells (madeCells #[.int .i64 0] (4 * FI.n)) 3)
  have hB00 := hB0.alloc hB0.size (.cells (madeCells #[.int .i64 0] (4 * FI.n)) 3)
  by_cases k1 : memOkB x = true
  case neg =>
    have k1' : memOkB x = false := (Bool.not_eq_true _).mp k1
    have HN := Hid.mk_ (show countsP x = [0, 0, 0, 0] from if_neg k1)
    clear k1
    go_enter Try.func21, Try.ntmps21
    go_wp2_with fail
    clear hmk
    go_loopw [4] (fun i wr => i = .int .i64 0 ∧ OwL FI 3 wr (.slice (some ⟨w.heap.size + 1, 0, none⟩) 4 4) [0, 0, 0, 0] ∧ Box wr w.heap.size [.slice H.Heap.Bytes.a H.Heap.Bytes.len H.Heap.Bytes.cap, .slice H.Heap.Class.a H.Heap.Class.len H.Heap.Class.cap, .slice H.Lists.Global.a H.Lists.Global.len H.Lists.Global.cap, .slice H.Lists.Own.a H.Lists.Own.len H.Lists.Own.cap] ∧ Below w.heap.size w wr) (fun _ _ => 0)
    case atStart => exact ⟨rfl, hO0, ba00, hB00⟩
    case round =>
      obtain ⟨rfl, ho, ba, hb⟩ := hrel
      clear hO0 ba00 hB00 ba0 hB0
      have qa0 := ba.cell 0 _ rfl
      have qa1 := ba.cell 1 _ rfl
      have qa2 := ba.cell 2 _ rfl
      have qa3 := ba.cell 3 _ rfl
      go_wp2_with fail
      refine (MemOk_spec _ H x (rdMem_up h hb) hs1 hs2).mono ?_
      rw [k1']
      rintro e w1 ⟨rfl, hb2⟩
      have ho2 := ho.keep (fun g hg => hb2.block g (foot_lt ho g (mem_foot1.2 hg)))
      have hB2 := hb.trans (hb2.mono hb.size)
      clear qa0 qa1 qa2 qa3 hb2 ho ba hb
      go_wp2
      go_ret
      exact ⟨_, rfl, by rw [HN.out]; exact ho2, by simp [foot1, Value.ownBlock], hB2⟩
  have HN := Hid.mk_ (show countsP x = cntTo x 24 from if_pos k1)
  have HS := Hid.mk_ (mem_shape k1)
  go_enter Try.func21, Try.ntmps21
  go_wp2_with fail
  clear hmk
  go_loopw [4] (fun i wr => ∃ k : Nat, k ≤ 24 ∧ i = .int .i64 k ∧ OwL FI 3 wr (.slice (some ⟨w.heap.size + 1, 0, none⟩) 4 4) (cntTo x k) ∧ Box wr w.heap.size [.slice H.Heap.Bytes.a H.Heap.Bytes.len H.Heap.Bytes.cap, .slice H.Heap.Class.a H.Heap.Class.len H.Heap.Class.cap, .slice H.Lists.Global.a H.Lists.Global.len H.Lists.Global.cap, .slice H.Lists.Own.a H.Lists.Own.len H.Lists.Own.cap] ∧ Below w.heap.size w wr) (fun i _ => 24 - (intOf i).toNat)
  case atStart => exact ⟨0, Nat.zero_le _, rfl, hO0, ba00, hB00⟩
  case round =>
    obtain ⟨k, hk, rfl, ho, ba, hb⟩ := hrel
    clear hO0 ba00 hB00 ba0 hB0
    by_cases hlt : k < 24
    · obtain ⟨j, hj, hst⟩ := state_nat x (k : Int)
      have HC := Hid.mk_ (cntTo_step hst)
      have hcg := cntTo_get x k hj
      have hbd := cntTo_bd x k j
      have hq := fun (W : World) (hW : Below w.heap.size w W) => l9State_spec W H x k (rdMem_up h hW) HS.out hs1 hs2
      rw [hst] at hq
      clear hst
      have qa0 := ba.cell 0 _ rfl
      have qa1 := ba.cell 1 _ rfl
      have qa2 := ba.cell 2 _ rfl
      have qa3 := ba.cell 3 _ rfl
      have hlb := ba.lt
      generalize (cntTo x k).getD j 0 = v at *
      go_wp2_with fail
      refine (MemOk_spec _ H x (rdMem_up h hb) hs1 hs2).mono ?_
      rw [k1]
      rintro e w2 ⟨rfl, hb2⟩
      have ho2 := ho.keep (fun g hg => hb2.block g (foot_lt ho g (mem_foot1.2 hg)))
      have ba2 := ba.below hb2
      have hB2 := hb.trans (hb2.mono hb.size)
      clear qa0 qa1 qa2 qa3 hb2 ho ba hb k1
      have qa0 := ba2.cell 0 _ rfl
      have qa1 := ba2.cell 1 _ rfl
      have qa2 := ba2.cell 2 _ rfl
      have qa3 := ba2.cell 3 _ rfl
      go_wp2_with fail
      refine (hq _ hB2).mono ?_
      rintro e w3 ⟨rfl, hb3⟩
      have hoN := ho2.keep (fun g hg => hb3.block g (foot_lt ho2 g (mem_foot1.2 hg)))
      have baN := ba2.below hb3
      have hBN := hB2.trans (hb3.mono hB2.size)
      clear hb3 hq ho2 ba2 hB2
      have hf := hoN.frozen_ j
      have hx := hoN.cell_ hcg FI.pos
      have hset := hoN.set_ (y := v + 1) (u := .int .i64 (v + 1)) hcg FI.pos rfl
      simp only [FI, Nat.mul_one, Nat.add_zero] at hx
      have h1 : OwL FI 3 (w3.setCell ⟨w.heap.size + 1, j, none⟩ (.int .i64 (v + 1))) (.slice (some ⟨w.heap.size + 1, 0, none⟩) 4 4) ((cntTo x k).set j (v + 1)) := by
        have h1 := hset
        rw [show j * FI.n + 0 = j by simp [FI]] at h1
        exact h1
      have hj' : (j : Int) < 4 := by omega
      clear hset
      clear qa0 qa1 qa2 qa3 hcg
      go_wp2
      go_roundw
      case rel => exact ⟨k + 1, by omega, by go_num, by rw [HC.out]; exact h1, baN.other (by omega) _, hBN.setCell (by simp) _⟩
      case measure => simp [intOf]; omega
    · go_wp2
      go_ret
      obtain rfl : k = 24 := by omega
      exact ⟨_, rfl, by rw [HN.out]; exact ho, by simp [foot1, Value.ownBlock], hb⟩
end Go.Proofs.Ytcligoicoeklfaa
