/-
  Several texts in one: lemmas and contracts that the claim rests on.
-/
import Derived.Test.YtkmggglljkmjoaaGreatUHCounts1
import Derived.Deep.QuietTactic
import Derived.BigQuiet
import Derived.Deep.LoopGhost
import Derived.Deep.RegionHeld3
import Derived.WalkSpells
import Derived.Laws.Cover3
import Derived.Test.YtkmggglljkmjoaaGreatUHCounts3
import Derived.Test.YtkmggglljkmjoaaGreatUHCounts10
import Derived.Deep.CutRange
/-
  How many slots are in each state: the contracts.
-/
namespace Go.Proofs.YtkmggglljkmjoaaGreat
open Go.RowKit
def cntTo (m : Mem) : Nat → List Int
  | 0 => [0, 0, 0, 0]
  | k + 1 => (cntTo m k).set (stateB m (k : Int)).toNat ((cntTo m k).getD (stateB m (k : Int)).toNat 0 + 1)
def countsP (m : Mem) : List Int := if memOkB m = true then cntTo m 24 else [0, 0, 0, 0]
theorem cntTo_len (m : Mem) : ∀ k, (cntTo m k).length = 4
  | 0 => rfl
  | k + 1 => by simp [cntTo, cntTo_len m k]
theorem cntTo_bd (m : Mem) : ∀ (k j : Nat), 0 ≤ (cntTo m k).getD j 0 ∧ (cntTo m k).getD j 0 ≤ k
  | 0, j => by
    rcases j with _ | _ | _ | _ | j <;> simp [cntTo]
  | k + 1, j => by
    have h := cntTo_bd m k j
    unfold cntTo
    by_cases e : (stateB m (k : Int)).toNat = j
    · rw [e]
      by_cases hj : j < (cntTo m k).length
      · have e2 : ((cntTo m k).set j ((cntTo m k).getD j 0 + 1)).getD j 0 = (cntTo m k).getD j 0 + 1 := by
          rw [List.getD, List.getElem?_set_self hj]
          rfl
        rw [e2]
        omega
      · rw [List.set_eq_of_length_le (by omega)]
        omega
    · simp [List.getD, List.getElem?_set_ne e] at h ⊢
      omega
theorem state_nat (m : Mem) (s : Int) : ∃ j : Nat, j < 4 ∧ stateB m s = (j : Int) := by
  rcases state_bd m s with h | h | h | h
  · exact ⟨0, by omega, h⟩
  · exact ⟨1, by omega, h⟩
  · exact ⟨2, by omega, h⟩
  · exact ⟨3, by omega, h⟩
theorem cntTo_step {m : Mem} {k j : Nat} (h : stateB m (k : Int) = (j : Int)) : cntTo m (k + 1) = (cntTo m k).set j ((cntTo m k).getD j 0 + 1) := by
  rw [cntTo, h, Int.toNat_natCast]
theorem cntTo_get (m : Mem) (k : Nat) {j : Nat} (hj : j < 4) : (cntTo m k)[j]? = some ((cntTo m k).getD j 0) := by
  have := cntTo_len m k
  simp [List.getD, this, hj]
theorem counts_len (m : Mem) : (countsP m).length = 4 := by
  unfold countsP
  split
  · exact cntTo_len m 24
  · rfl
set_option maxRecDepth 100000 in
set_option maxHeartbeats 2000000 in
theorem Counts_impl (w : World) (H : HMem) (x : Mem) (h : RdMem w w.heap.size H x) :
    Calls Tryz.prog 18 #[.agg #[.slice H.Heap.Bytes.a H.Heap.Bytes.len H.Heap.Bytes.cap, .slice H.Heap.Class.a H.Heap.Class.len H.Heap.Class.cap, .slice H.Lists.Global.a H.Lists.Global.len H.Lists.Global.cap, .slice H.Lists.Own.a H.Lists.Own.len H.Lists.Own.cap]] w fun e w' => ∃ v', e = .returned v' ∧ OwL FI 3 w' v' (countsP x) ∧ (∀ g ∈ foot1 v', w.heap.size ≤ g) ∧ Below w.heap.size w w' := by
  have hmk : ∀ w, (Instr.makeSlice 24 (.int .i64 4) (.int .i64 4)).run Tryz.prog w = .ok (.slice (some ⟨w.heap.size, 0, none⟩) 4 4) (w.alloc (.cells (madeCells #[.int .i64 0] (4 * FI.n)) 3)) := run_make_flat (P := Tryz.prog) FI 24 3 (.int .i64 0) 8 Tryz.underlying24 Tryz.infoInt 4 (by omega) (by omega)
  have ba0 : Box (w.alloc (.cells #[.slice H.Heap.Bytes.a H.Heap.Bytes.len H.Heap.Bytes.cap, .slice H.Heap.Class.a H.Heap.Class.len H.Heap.Class.cap, .slice H.Lists.Global.a H.Lists.Global.len H.Lists.Global.cap, .slice H.Lists.Own.a H.Lists.Own.len H.Lists.Own.cap] 31)) w.heap.size [.slice H.Heap.Bytes.a H.Heap.Bytes.len H.Heap.Bytes.cap, .slice H.Heap.Class.a H.Heap.Class.len H.Heap.Class.cap, .slice H.Lists.Global.a H.Lists.Global.len H.Lists.Global.cap, .slice H.Lists.Own.a H.Lists.Own.len H.Lists.Own.cap] := Box.new w #[.slice H.Heap.Bytes.a H.Heap.Bytes.len H.Heap.Bytes.cap, .slice H.Heap.Class.a H.Heap.Class.len H.Heap.Class.cap, .slice H.Lists.Global.a H.Lists.Global.len H.Lists.Global.cap, .slice H.Lists.Own.a H.Lists.Own.len H.Lists.Own.cap] _
  have hB0 : Below w.heap.size w (w.alloc (.cells #[.slice H.Heap.Bytes.a H.Heap.Bytes.len H.Heap.Bytes.cap, .slice H.Heap.Class.a H.Heap.Class.len H.Heap.Class.cap, .slice H.Lists.Global.a H.Lists.Global.len H.Lists.Global.cap, .slice H.Lists.Own.a H.Lists.Own.len H.Lists.Own.cap] 31)) := by repeat (first | exact Below.refl _ _ | refine Below.alloc ?_ (by simp <;> omega) _ | refine below_grow_of ?_ (by simp <;> omega) _ _ | refine Below.drew ?_ | refine below_drewN ?_ _)
  have hO0 : OwL FI 3 ((w.alloc (.cells #[.slice H.Heap.Bytes.a H.Heap.Bytes.len H.Heap.Bytes.cap, .slice H.Heap.Class.a H.Heap.Class.len H.Heap.Class.cap, .slice H.Lists.Global.a H.Lists.Global.len H.Lists.Global.cap, .slice H.Lists.Own.a H.Lists.Own.len H.Lists.Own.cap] 31)).alloc (.cells (madeCells #[.int .i64 0] (4 * FI.n)) 3)) (.slice (some ⟨w.heap.size + 1, 0, none⟩) 4 4) [0, 0, 0, 0] := by
    have ho := OwL.made FI #[.int .i64 0] rfl 4 (by simp [maxLen]) (w.alloc (.cells #[.slice H.Heap.Bytes.a H.Heap.Bytes.len H.Heap.Bytes.cap, .slice H.Heap.Class.a H.Heap.Class.len H.Heap.Class.cap, .slice H.Lists.Global.a H.Lists.Global.len H.Lists.Global.cap, .slice H.Lists.Own.a H.Lists.Own.len H.Lists.Own.cap] 31)) 3
    rw [World.size_alloc] at ho
    exact ho
  have ba00 := ba0.alloc (.cells (madeCells #[.int .i64 0] (4 * FI.n)) 3)
  have hB00 := hB0.alloc hB0.size (.cells (madeCells #[.int .i64 0] (4 * FI.n)) 3)
  by_cases k1 : memOkB x = true
  case neg =>
    have k1' : memOkB x = false := (Bool.not_eq_true _).mp k1
    have HN := Hid.mk_ (show countsP x = [0, 0, 0, 0] from if_neg k1)
    clear k1
    go_enter Tryz.func18, Tryz.ntmps18
    go_wp2_with fail
    clear hmk
    generalize hW0 : ((w.alloc (.cells #[.slice H.Heap.Bytes.a H.Heap.Bytes.len H.Heap.Bytes.cap, .slice H.Heap.Class.a H.Heap.Class.len H.Heap.Class.cap, .slice H.Lists.Global.a H.Lists.Global.len H.Lists.Global.cap, .slice H.Lists.Own.a H.Lists.Own.len H.Lists.Own.cap] 31)).alloc (.cells (madeCells #[.int .i64 0] (4 * FI.n)) 3)) = w0 at hO0 ba00 hB00 ⊢
    clear hW0
    refine (MemOk_impl _ H x (rdMem_up h hB00)).mono ?_
    rw [k1']
    rintro e w1 ⟨rfl, hb⟩
    have hO1 := hO0.keep (fun g hg => hb.block g (foot_lt hO0 g (mem_foot1.2 hg)))
    have hB1 := hB00.trans (hb.mono hB00.size)
    clear hb ba0 hB0
    go_wp2
    go_ret
    exact ⟨_, rfl, by rw [HN.out]; exact hO1, by simp [foot1, Value.ownBlock], hB1⟩
  have HN := Hid.mk_ (show countsP x = cntTo x 24 from if_pos k1)
  have HS := Hid.mk_ (mem_shape k1)
  go_enter Tryz.func18, Tryz.ntmps18
  go_wp2_with fail
  clear hmk
  generalize hW0 : ((w.alloc (.cells #[.slice H.Heap.Bytes.a H.Heap.Bytes.len H.Heap.Bytes.cap, .slice H.Heap.Class.a H.Heap.Class.len H.Heap.Class.cap, .slice H.Lists.Global.a H.Lists.Global.len H.Lists.Global.cap, .slice H.Lists.Own.a H.Lists.Own.len H.Lists.Own.cap] 31)).alloc (.cells (madeCells #[.int .i64 0] (4 * FI.n)) 3)) = w0 at hO0 ba00 hB00 ⊢
  clear hW0
  refine (MemOk_impl _ H x (rdMem_up h hB00)).mono ?_
  rw [k1]
  rintro e w1 ⟨rfl, hb⟩
  have hO1 := hO0.keep (fun g hg => hb.block g (foot_lt hO0 g (mem_foot1.2 hg)))
  have ba1 := ba00.below hb
  have hB1 := hB00.trans (hb.mono hB00.size)
  clear hb ba0 hB0 hO0 ba00 hB00 k1
  go_wp2_with fail
  go_loopw [10] (fun i wr => ∃ k : Nat, k ≤ 24 ∧ i = .int .i64 k ∧ OwL FI 3 wr (.slice (some ⟨w.heap.size + 1, 0, none⟩) 4 4) (cntTo x k) ∧ Box wr w.heap.size [.slice H.Heap.Bytes.a H.Heap.Bytes.len H.Heap.Bytes.cap, .slice H.Heap.Class.a H.Heap.Class.len H.Heap.Class.cap, .slice H.Lists.Global.a H.Lists.Global.len H.Lists.Global.cap, .slice H.Lists.Own.a H.Lists.Own.len H.Lists.Own.cap] ∧ Below w.heap.size w wr) (fun i _ => 24 - (intOf i).toNat)
  case atStart => exact ⟨0, Nat.zero_le _, rfl, hO1, ba1, hB1⟩
  case round =>
    obtain ⟨k, hk, rfl, ho, ba, hb⟩ := hrel
    clear hO1 ba1 hB1
    by_cases hlt : k < 24
    · obtain ⟨j, hj, hst⟩ := state_nat x (k : Int)
      have HC := Hid.mk_ (cntTo_step hst)
      have hcg := cntTo_get x k hj
      have hbd := cntTo_bd x k j
      have hq := fun (W : World) (hW : Below w.heap.size w W) => stateOf_impl W H x k (rdMem_up h hW) HS.out
      rw [hst] at hq
      clear hst
      have qa0 := ba.cell 0 _ rfl
      have qa1 := ba.cell 1 _ rfl
      have qa2 := ba.cell 2 _ rfl
      have qa3 := ba.cell 3 _ rfl
      have hlb := ba.lt
      generalize (cntTo x k).getD j 0 = v at *
      go_wp2_with fail
      refine (hq _ hb).mono ?_
      rintro e w2 ⟨rfl, hb2⟩
      have hoN := ho.keep (fun g hg => hb2.block g (foot_lt ho g (mem_foot1.2 hg)))
      have baN := ba.below hb2
      have hBN := hb.trans (hb2.mono hb.size)
      clear hb2 hq ho ba hb
      have hf := hoN.frozen_ j
      have hx := hoN.cell_ hcg FI.pos
      have hset := hoN.set_ (y := v + 1) (u := .int .i64 (v + 1)) hcg FI.pos rfl
      simp only [FI, Nat.mul_one, Nat.add_zero] at hx
      have h1 : OwL FI 3 (w2.setCell ⟨w.heap.size + 1, j, none⟩ (.int .i64 (v + 1))) (.slice (some ⟨w.heap.size + 1, 0, none⟩) 4 4) ((cntTo x k).set j (v + 1)) := by
        have h1 := hset
        rw [show j * FI.n + 0 = j by simp [FI]] at h1
        exact h1
      have hj' : (j : Int) < 4 := by omega
      clear hset
      clear qa0 qa1 qa2 qa3 hcg
      go_wp2
      go_roundw
      case rel => exact ⟨k + 1, by omega, by go_num, by rw [HC.out]; exact h1, baN.other (by omega) _, hBN.setCell (by simp) _⟩
      case measure => simp [intOf]; omega
    · go_wp2
      go_ret
      obtain rfl : k = 24 := by omega
      exact ⟨_, rfl, by rw [HN.out]; exact ho, by simp [foot1, Value.ownBlock], hb⟩
set_option maxRecDepth 100000 in
set_option maxHeartbeats 2000000 in
theorem Counts_spec (w : World) (H : HMem) (x : Mem) (h : RdMem w w.heap.size H x) (hs1 : szLL x.Lists.Global ≤ 536870912) (hs2 : szLL x.Lists.Own ≤ 536870912) :
    Calls Tryz.prog 22 #[.agg #[.slice H.Heap.Bytes.a H.Heap.Bytes.len H.Heap.Bytes.cap, .slice H.Heap.Class.a H.Heap.Class.len H.Heap.Class.cap, .slice H.Lists.Global.a H.Lists.Global.len H.Lists.Global.cap, .slice H.Lists.Own.a H.Lists.Own.len H.Lists.Own.cap]] w fun e w' => ∃ v', e = .returned v' ∧ OwL FI 3 w' v' (countsP x) ∧ (∀ g ∈ foot1 v', w.heap.size ≤ g) ∧ Below w.heap.size w w' := by
  have hmk : ∀ w, (Instr.makeSlice 24 (.int .i64 4) (.int .i64 4)).run Tryz.prog w = .ok (.slice (some ⟨w.heap.size, 0, none⟩) 4 4) (w.alloc (.cells (madeCells #[.int .i64 0] (4 * FI.n)) 3)) := run_make_flat (P := Tryz.prog) FI 24 3 (.int .i64 0) 8 Tryz.underlying24 Tryz.infoInt 4 (by omega) (by omega)
  have ba0 : Box (w.alloc (.cells #[.slice H.Heap.Bytes.a H.Heap.Bytes.len H.Heap.Bytes.cap, .slice H.Heap.Class.a H.Heap.Class.len H.Heap.Class.cap, .slice H.Lists.Global.a H.Lists.Global.len H.Lists.Global.cap, .slice H.Lists.Own.a H.Lists.Own.len H.Lists.Own.cap] 31)) w.heap.size [.slice H.Heap.Bytes.a H.Heap.Bytes.len H.Heap.Bytes.cap, .slice H.Heap.Class.a H.Heap.Class.len H.Heap.Class.cap, .slice H.Lists.Global.a H.Lists.Global.len H.Lists.Global.cap, .slice H.Lists.Own.a H.Lists.Own.len H.Lists.Own.cap] := Box.new w #[.slice H.Heap.Bytes.a H.Heap.Bytes.len H.Heap.Bytes.cap, .slice H.Heap.Class.a H.Heap.Class.len H.Heap.Class.cap, .slice H.Lists.Global.a H.Lists.Global.len H.Lists.Global.cap, .slice H.Lists.Own.a H.Lists.Own.len H.Lists.Own.cap] _
  have hB0 : Below w.heap.size w (w.alloc (.cells #[.slice H.Heap.Bytes.a H.Heap.Bytes.len H.Heap.Bytes.cap, .slice H.Heap.Class.a H.Heap.Class.len H.Heap.Class.cap, .slice H.Lists.Global.a H.Lists.Global.len H.Lists.Global.cap, .slice H.Lists.Own.a H.Lists.Own.len H.Lists.Own.cap] 31)) := by repeat (first | exact Below.refl _ _ | refine Below.alloc ?_ (by simp <;> omega) _ | refine below_grow_of ?_ (by simp <;> omega) _ _ | refine Below.drew ?_ | refine below_drewN ?_ _)
  have hO0 : OwL FI 3 ((w.alloc (.cells #[.slice H.Heap.Bytes.a H.Heap.Bytes.len H.Heap.Bytes.cap, .slice H.Heap.Class.a H.Heap.Class.len H.Heap.Class.cap, .slice H.Lists.Global.a H.Lists.Global.len H.Lists.Global.cap, .slice H.Lists.Own.a H.Lists.Own.len H.Lists.Own.cap] 31)).alloc (.cells (madeCells #[.int .i64 0] (4 * FI.n)) 3)) (.slice (some ⟨w.heap.size + 1, 0, none⟩) 4 4) [0, 0, 0, 0] := by
    have ho := OwL.made FI #[.int .i64 0] rfl 4 (by simp [maxLen]) (w.alloc (.cells #[.slice H.Heap.Bytes.a H.Heap.Bytes.len H.Heap.Bytes.cap, .slice H.Heap.Class.a H.Heap.Class.len H.Heap.Class.cap, .slice H.Lists.Global.a H.Lists.Global.len H.Lists.Global.cap, .slice H.Lists.Own.a H.Lists.Own.len H.Lists.Own.cap] 31)) 3
    rw [World.size_alloc] at ho
    exact ho
  have ba00 := ba0.alloc (.cells (madeCells #[.int .i64 0] (4 * FI.n)) 3)
  have hB00 := hB0.alloc hB0.size (.cells (madeCells #[.int .i64 0] (4 * FI.n)) 3)
  by_cases k1 : memOkB x = true
  case neg =>
    have k1' : memOkB x = false := (Bool.not_eq_true _).mp k1
    have HN := Hid.mk_ (show countsP x = [0, 0, 0, 0] from if_neg k1)
    clear k1
    go_enter Tryz.func22, Tryz.ntmps22
    go_wp2_with fail
    clear hmk
    go_loopw [4] (fun i wr => i = .int .i64 0 ∧ OwL FI 3 wr (.slice (some ⟨w.heap.size + 1, 0, none⟩) 4 4) [0, 0, 0, 0] ∧ Box wr w.heap.size [.slice H.Heap.Bytes.a H.Heap.Bytes.len H.Heap.Bytes.cap, .slice H.Heap.Class.a H.Heap.Class.len H.Heap.Class.cap, .slice H.Lists.Global.a H.Lists.Global.len H.Lists.Global.cap, .slice H.Lists.Own.a H.Lists.Own.len H.Lists.Own.cap] ∧ Below w.heap.size w wr) (fun _ _ => 0)
    case atStart => exact ⟨rfl, hO0, ba00, hB00⟩
    case round =>
      obtain ⟨rfl, ho, ba, hb⟩ := hrel
      clear hO0 ba00 hB00 ba0 hB0
      have qa0 := ba.cell 0 _ rfl
      have qa1 := ba.cell 1 _ rfl
      have qa2 := ba.cell 2 _ rfl
      have qa3 := ba.cell 3 _ rfl
      go_wp2_with fail
      refine (MemOk_spec _ H x (rdMem_up h hb) hs1 hs2).mono ?_
      rw [k1']
      rintro e w1 ⟨rfl, hb2⟩
      have ho2 := ho.keep (fun g hg => hb2.block g (foot_lt ho g (mem_foot1.2 hg)))
      have hB2 := hb.trans (hb2.mono hb.size)
      clear qa0 qa1 qa2 qa3 hb2 ho ba hb
      go_wp2
      go_ret
      exact ⟨_, rfl, by rw [HN.out]; exact ho2, by simp [foot1, Value.ownBlock], hB2⟩
  have HN := Hid.mk_ (show countsP x = cntTo x 24 from if_pos k1)
  have HS := Hid.mk_ (mem_shape k1)
  go_enter Tryz.func22, Tryz.ntmps22
  go_wp2_with fail
  clear hmk
  go_loopw [4] (fun i wr => ∃ k : Nat, k ≤ 24 ∧ i = .int .i64 k ∧ OwL FI 3 wr (.slice (some ⟨w.heap.size + 1, 0, none⟩) 4 4) (cntTo x k) ∧ Box wr w.heap.size [.slice H.Heap.Bytes.a H.Heap.Bytes.len H.Heap.Bytes.cap, .slice H.Heap.Class.a H.Heap.Class.len H.Heap.Class.cap, .slice H.Lists.Global.a H.Lists.Global.len H.Lists.Global.cap, .slice H.Lists.Own.a H.Lists.Own.len H.Lists.Own.cap] ∧ Below w.heap.size w wr) (fun i _ => 24 - (intOf i).toNat)
  case atStart => exact ⟨0, Nat.zero_le _, rfl, hO0, ba00, hB00⟩
  case round =>
    obtain ⟨k, hk, rfl, ho, ba, hb⟩ := hrel
    clear hO0 ba00 hB00 ba0 hB0
    by_cases hlt : k < 24
    · obtain ⟨j, hj, hst⟩ := state_nat x (k : Int)
      have HC := Hid.mk_ (cntTo_step hst)
      have hcg := cntTo_get x k hj
      have hbd := cntTo_bd x k j
      have hq := fun (W : World) (hW : Below w.heap.size w W) => l9State_spec W H x k (rdMem_up h hW) HS.out hs1 hs2
      rw [hst] at hq
      clear hst
      have qa0 := ba.cell 0 _ rfl
      have qa1 := ba.cell 1 _ rfl
      have qa2 := ba.cell 2 _ rfl
      have qa3 := ba.cell 3 _ rfl
      have hlb := ba.lt
      generalize (cntTo x k).getD j 0 = v at *
      go_wp2_with fail
      refine (MemOk_spec _ H x (rdMem_up h hb) hs1 hs2).mono ?_
      rw [k1]
      rintro e w2 ⟨rfl, hb2⟩
      have ho2 := ho.keep (fun g hg => hb2.block g (foot_lt ho g (mem_foot1.2 hg)))
      have ba2 := ba.below hb2
      have hB2 := hb.trans (hb2.mono hb.size)
      clear qa0 qa1 qa2 qa3 hb2 ho ba hb k1
      have qa0 := ba2.cell 0 _ rfl
      have qa1 := ba2.cell 1 _ rfl
      have qa2 := ba2.cell 2 _ rfl
      have qa3 := ba2.cell 3 _ rfl
      go_wp2_with fail
      refine (hq _ hB2).mono ?_
      rintro e w3 ⟨rfl, hb3⟩
      have hoN := ho2.keep (fun g hg => hb3.block g (foot_lt ho2 g (mem_foot1.2 hg)))
      have baN := ba2.below hb3
      have hBN := hB2.trans (hb3.mono hB2.size)
      clear hb3 hq ho2 ba2 hB2
      have hf := hoN.frozen_ j
      have hx := hoN.cell_ hcg FI.pos
      have hset := hoN.set_ (y := v + 1) (u := .int .i64 (v + 1)) hcg FI.pos rfl
      simp only [FI, Nat.mul_one, Nat.add_zero] at hx
      have h1 : OwL FI 3 (w3.setCell ⟨w.heap.size + 1, j, none⟩ (.int .i64 (v + 1))) (.slice (some ⟨w.heap.size + 1, 0, none⟩) 4 4) ((cntTo x k).set j (v + 1)) := by
        have h1 := hset
        rw [show j * FI.n + 0 = j by simp [FI]] at h1
        exact h1
      have hj' : (j : Int) < 4 := by omega
      clear hset
      clear qa0 qa1 qa2 qa3 hcg
      go_wp2
      go_roundw
      case rel => exact ⟨k + 1, by omega, by go_num, by rw [HC.out]; exact h1, baN.other (by omega) _, hBN.setCell (by simp) _⟩
      case measure => simp [intOf]; omega
    · go_wp2
      go_ret
      obtain rfl : k = 24 := by omega
      exact ⟨_, rfl, by rw [HN.out]; exact ho, by simp [foot1, Value.ownBlock], hb⟩
end Go.Proofs.YtkmggglljkmjoaaGreat

/-
  How many slots are in each state: plain facts.
-/
namespace Go.Proofs.YtkmggglljkmjoaaGreat
open Go.RowKit

theorem sum_setC : ∀ (l : List Int) (j : Nat) (v : Int), j < l.length → (l.set j v).sum = l.sum - l.getD j 0 + v
  | [], j, v, h => by simp at h
  | a :: l, 0, v, _ => by simp; omega
  | a :: l, j + 1, v, h => by
    have ih := sum_setC l j v (by simpa using h)
    simp only [List.set_cons_succ, List.sum_cons, List.getD_cons_succ]
    omega
theorem getD_setC (l : List Int) (j i : Nat) (v : Int) (hj : j < l.length) : (l.set j v).getD i 0 = if i = j then v else l.getD i 0 := by
  by_cases e : i = j
  · subst e
    rw [if_pos rfl, List.getD, List.getElem?_set_self hj]
    rfl
  · rw [if_neg e, List.getD, List.getElem?_set_ne (fun h => e h.symm), ← List.getD]
theorem cntTo_sum (m : Mem) : ∀ k : Nat, (cntTo m k).sum = (k : Int)
  | 0 => rfl
  | k + 1 => by
    obtain ⟨j, hj, e⟩ := state_nat m (k : Int)
    rw [cntTo_step e, sum_setC _ _ _ (by rw [cntTo_len]; exact hj), cntTo_sum m k]
    omega
theorem counts_sum (m : Mem) : (countsP m).sum = if memOkB m = true then 24 else 0 := by
  unfold countsP
  split
  · exact cntTo_sum m 24
  · rfl
def carvedTo (h : Heap) : Nat → List Int
  | 0 => []
  | k + 1 => if classInB h (k : Int) < 0 then carvedTo h k else carvedTo h k ++ [(k : Int)]
def carvedP (h : Heap) : List Int := if shapeB h = true then carvedTo h 24 else []
theorem carvedTo_len (h : Heap) : ∀ k, (carvedTo h k).length ≤ k
  | 0 => Nat.le_refl _
  | k + 1 => by
    have := carvedTo_len h k
    unfold carvedTo
    split
    · omega
    · simp; omega
theorem cnt_carved (m : Mem) : ∀ k : Nat, (cntTo m k).getD 0 0 + ((carvedTo m.Heap k).length : Int) = k
  | 0 => rfl
  | k + 1 => by
    have ih := cnt_carved m k
    obtain ⟨j, hj, e⟩ := state_nat m (k : Int)
    rw [cntTo_step e, getD_setC _ _ _ _ (by rw [cntTo_len]; exact hj), carvedTo]
    by_cases c : classInB m.Heap (k : Int) < 0
    · have e0 : stateB m (k : Int) = 0 := if_pos c
      have hj0 : j = 0 := by omega
      subst hj0
      rw [if_pos rfl, if_pos c]
      omega
    · have hj0 : j ≠ 0 := by
        intro z
        subst z
        have : stateB m (k : Int) = 0 := e
        unfold stateB at this
        rw [if_neg c] at this
        repeat' split at this
        all_goals omega
      rw [if_neg (fun z => hj0 z.symm), if_neg c, List.length_append, List.length_singleton]
      push_cast
      omega
theorem counts_carved {m : Mem} (k : memOkB m = true) : 24 - (countsP m).getD 0 0 = ((carvedP m.Heap).length : Int) := by
  have h := cnt_carved m 24
  unfold countsP carvedP
  rw [if_pos k, if_pos (mem_shape k)]
  omega
theorem counts_bad {m : Mem} (k : memOkB m = false) : (countsP m).sum = 0 := by rw [counts_sum, if_neg (by rw [k]; decide)]
end Go.Proofs.YtkmggglljkmjoaaGreat

/-
  Carved: the reference.
-/
namespace Go.Proofs.YtkmggglljkmjoaaGreat
open Go.RowKit

theorem foot1_at {g n c b : Nat} (h : b ∈ foot1 (.slice (some ⟨g, 0, none⟩) n c)) : b = g := by simp [foot1, Value.ownBlock] at h; exact h
theorem carvedTo_yes {h : Heap} {k : Nat} (c : ¬ classInB h (k : Int) < 0) : carvedTo h (k + 1) = carvedTo h k ++ [(k : Int)] := by rw [carvedTo, if_neg c]
theorem carvedTo_no {h : Heap} {k : Nat} (c : classInB h (k : Int) < 0) : carvedTo h (k + 1) = carvedTo h k := by rw [carvedTo, if_pos c]
set_option maxRecDepth 100000 in
set_option maxHeartbeats 2000000 in
theorem Carved_spec (w : World) (H : HHeap) (x : Heap) (h : RdHeap w w.heap.size H x) :
    Calls Tryz.prog 20 #[.agg #[.slice H.Bytes.a H.Bytes.len H.Bytes.cap, .slice H.Class.a H.Class.len H.Class.cap]] w fun e w' => ∃ v', e = .returned v' ∧ OwL FI 3 w' v' (carvedP x) ∧ (∀ g ∈ foot1 v', w.heap.size ≤ g) ∧ Below w.heap.size w w' := by
  have ba0 : Box ((w.alloc (.cells #[.slice H.Bytes.a H.Bytes.len H.Bytes.cap, .slice H.Class.a H.Class.len H.Class.cap] 26)).alloc (.cells #[] 3)) w.heap.size [.slice H.Bytes.a H.Bytes.len H.Bytes.cap, .slice H.Class.a H.Class.len H.Class.cap] := (Box.new w #[.slice H.Bytes.a H.Bytes.len H.Bytes.cap, .slice H.Class.a H.Class.len H.Class.cap] 26).alloc _
  have hB0 : Below w.heap.size w ((w.alloc (.cells #[.slice H.Bytes.a H.Bytes.len H.Bytes.cap, .slice H.Class.a H.Class.len H.Class.cap] 26)).alloc (.cells #[] 3)) := by repeat (first | exact Below.refl _ _ | refine Below.alloc ?_ (by simp <;> omega) _ | refine below_grow_of ?_ (by simp <;> omega) _ _ | refine Below.drew ?_ | refine below_drewN ?_ _)
  have hO0 : OwL FI 3 ((w.alloc (.cells #[.slice H.Bytes.a H.Bytes.len H.Bytes.cap, .slice H.Class.a H.Class.len H.Class.cap] 26)).alloc (.cells #[] 3)) (.slice (some ⟨w.heap.size + 1, 0, none⟩) 0 0) [] := by
    have a := OwL.lit FI [] #[] rfl (by decide) (w.alloc (.cells #[.slice H.Bytes.a H.Bytes.len H.Bytes.cap, .slice H.Class.a H.Class.len H.Class.cap] 26)) 3
    rwa [World.size_alloc] at a
  have kS := fun (W : World) (hW : Below w.heap.size w W) => l7Shape_spec W H x (rdHeap_up h hW)
  have hlb := carvedTo_len x
  by_cases c1 : shapeB x = true
  case neg =>
    have c1' := (Bool.not_eq_true _).mp c1
    have HN := Hid.mk_ (show carvedP x = [] from if_neg c1)
    rw [c1'] at kS
    clear c1 c1' h hlb
    go_enter Tryz.func20, Tryz.ntmps20
    go_wp2_with fail
    generalize hW0 : ((w.alloc (.cells #[.slice H.Bytes.a H.Bytes.len H.Bytes.cap, .slice H.Class.a H.Class.len H.Class.cap] 26)).alloc (.cells #[] 3)) = w0 at hO0 ba0 hB0 ⊢
    clear hW0
    go_loopw [3, 4] (fun o i wr => i = .int .i64 0 ∧ OwL FI 3 wr o [] ∧ (∀ g ∈ foot1 o, w.heap.size < g) ∧ Box wr w.heap.size [.slice H.Bytes.a H.Bytes.len H.Bytes.cap, .slice H.Class.a H.Class.len H.Class.cap] ∧ Below w.heap.size w wr) (fun _ _ _ => 0)
    case atStart => exact ⟨rfl, hO0, fun g hg => by have := foot1_at hg; omega, ba0, hB0⟩
    case round =>
      obtain ⟨rfl, ho, hf, ba, hb⟩ := hrel
      have zb := ba.lt
      have qa0 := ba.cell 0 _ rfl
      have qa1 := ba.cell 1 _ rfl
      go_wp2_with fail
      refine (kS _ hb).mono ?_
      rintro e w2 ⟨rfl, hbx⟩
      go_wp2_with fail
      go_ret
      exact ⟨u3, rfl, by rw [HN.out]; exact ho.keep (fun g hg => hbx.block g (foot_lt ho g (mem_foot1.2 hg))), fun g hg => Nat.le_of_lt (hf g hg), hb.trans (hbx.mono hb.size)⟩
  have HV := Hid.mk_ (show carvedP x = carvedTo x 24 from if_pos c1)
  have kC := fun (s : Int) (W : World) (hW : Below w.heap.size w W) => l7Class_spec W H x s (rdHeap_up h hW) c1
  rw [c1] at kS
  clear c1 h
  go_enter Tryz.func20, Tryz.ntmps20
  go_wp2_with fail
  generalize hW0 : ((w.alloc (.cells #[.slice H.Bytes.a H.Bytes.len H.Bytes.cap, .slice H.Class.a H.Class.len H.Class.cap] 26)).alloc (.cells #[] 3)) = w0 at hO0 ba0 hB0 ⊢
  clear hW0
  go_loopw [3, 4] (fun o i wr => ∃ k : Nat, k ≤ 24 ∧ i = .int .i64 k ∧ OwL FI 3 wr o (carvedTo x k) ∧ (∀ g ∈ foot1 o, w.heap.size < g) ∧ Box wr w.heap.size [.slice H.Bytes.a H.Bytes.len H.Bytes.cap, .slice H.Class.a H.Class.len H.Class.cap] ∧ Below w.heap.size w wr) (fun _ i _ => 24 - (intOf i).toNat)
  case atStart => exact ⟨0, Nat.zero_le _, rfl, hO0, fun g hg => by have := foot1_at hg; omega, ba0, hB0⟩
  case round =>
    clear hO0 ba0 hB0
    obtain ⟨k, hk, rfl, ho, hf, ba, hb⟩ := hrel
    by_cases hlt : k < 24
    · have hq := kC (k : Int)
      have hlen := hlb k
      clear kC hlb
      have zb := ba.lt
      have qa0 := ba.cell 0 _ rfl
      have qa1 := ba.cell 1 _ rfl
      go_wp2_with fail
      refine (kS _ hb).mono ?_
      rintro e w2 ⟨rfl, hbx⟩
      replace ho := ho.keep (fun g hg => hbx.block g (foot_lt ho g (mem_foot1.2 hg)))
      replace ba := ba.below hbx
      replace hb := hb.trans (hbx.mono hb.size)
      clear hbx qa0 qa1 zb kS
      have zb := ba.lt
      have qa0 := ba.cell 0 _ rfl
      have qa1 := ba.cell 1 _ rfl
      by_cases c3 : classInB x (k : Int) < 0
      · have HS := Hid.mk_ (carvedTo_no c3)
        have c3' : ¬ 0 ≤ classInB x (k : Int) := by omega
        generalize classInB x (k : Int) = cl at hq c3 c3'
        go_wp2_with fail
        refine (hq _ hb).mono ?_
        rintro e w3 ⟨rfl, hbx⟩
        replace ho := ho.keep (fun g hg => hbx.block g (foot_lt ho g (mem_foot1.2 hg)))
        replace ba := ba.below hbx
        replace hb := hb.trans (hbx.mono hb.size)
        clear hbx hq qa0 qa1 zb
        go_wp2_with fail
        go_roundw
        case rel => exact ⟨k + 1, by omega, by go_num, by rw [HS.out]; exact ho, hf, ba, hb⟩
        case measure => simp [intOf]; omega
      · have HS := Hid.mk_ (carvedTo_yes c3)
        have c3' : 0 ≤ classInB x (k : Int) := by omega
        generalize classInB x (k : Int) = cl at hq c3 c3'
        go_wp2_with fail
        refine (hq _ hb).mono ?_
        rintro e w3 ⟨rfl, hbx⟩
        replace ho := ho.keep (fun g hg => hbx.block g (foot_lt ho g (mem_foot1.2 hg)))
        replace ba := ba.below hbx
        replace hb := hb.trans (hbx.mono hb.size)
        clear hbx hq qa0 qa1 zb
        have zb := ba.lt
        have hsz := hb.size
        go_wp2_with (at_builtin; refine wpList_append_flat Tryz.stInt rfl _ _ rfl (v := u3) (y := .slice (some ⟨w3.heap.size, 0, none⟩) 1 1) (l := carvedTo x k) (m := [(k : Int)]) rfl rfl (OwL.alloc_ ho _) (OwL.lit FI [(k : Int)] #[.int .i64 k] rfl (by simp [maxLen]) w3 3).rd' (by simp; omega) ?_; intro v' w5 ho' hg' hat')
        have hB5 : Below w.heap.size w3 w5 := ((Below.refl _ _).alloc (by omega) _).grown hg' (by simp; omega) (fun b hb' => Nat.le_of_lt (hf b (mem_foot1.2 hb')))
        have ba5 := (ba.alloc (.cells #[.int .i64 k] 3)).chg (Chg.of_grown hg') (fun hm => by have := hf _ hm; omega)
        go_roundw
        case rel =>
          refine ⟨k + 1, by omega, by go_num, by rw [HS.out]; exact ho', fun b hb' => ?_, ba5, hb.trans hB5⟩
          rcases foot_app hat' b hb' with h1 | h1
          · exact hf b h1
          · simp at h1
            omega
        case measure => simp [intOf]; omega
    · go_wp2_with fail
      go_ret
      obtain rfl : k = 24 := by omega
      exact ⟨u3, rfl, by rw [HV.out]; exact ho, fun g hg => Nat.le_of_lt (hf g hg), hb⟩
end Go.Proofs.YtkmggglljkmjoaaGreat

/-
  Words of the laws: counted, summed, compared.
-/
namespace Go.Proofs.YtkmggglljkmjoaaGreat
open Go.RowKit
set_option maxHeartbeats 400000 in
theorem sameInts_ct (w : World) (v1 v2 : Value) (l : List Int) (h1 : RdL FI w w.heap.size v1 l) (h2 : RdL FI w w.heap.size v2 l) (hs : l.length ≤ 1073741824) :
    Calls Tryz.prog 21 #[v1, v2] w fun e w' => e = .returned (.bool true) ∧ Below w.heap.size w w' := by
  obtain ⟨A1, c1, hv1, _⟩ := id h1
  obtain ⟨A2, c2, hv2, _⟩ := id h2
  subst hv1 hv2
  go_enter Tryz.func21, Tryz.ntmps21
  go_wp2
  go_loopw [5] (fun i wr => ∃ k : Nat, k ≤ l.length ∧ i = .int .i64 k ∧ Below w.heap.size w wr) (fun i _ => l.length - (intOf i).toNat)
  case atStart => exact ⟨0, Nat.zero_le _, rfl, Below.refl _ _⟩
  case round =>
    obtain ⟨k, hk, rfl, hb⟩ := hrel
    by_cases hlt : k < l.length
    · obtain ⟨g1, o1, cap1, e1, _, _, _, q1⟩ := (h1.below hb).at_ (List.getElem?_eq_getElem hlt)
      obtain ⟨g2, o2, cap2, e2, _, _, _, q2⟩ := (h2.below hb).at_ (List.getElem?_eq_getElem hlt)
      injection e1 with e11 _ e13
      injection e2 with e21 _ e23
      subst e11 e13 e21 e23
      have hc1 := q1 0 _ rfl
      have hc2 := q2 0 _ rfl
      simp only [FI, Nat.mul_one, Nat.add_zero] at hc1 hc2
      clear q1 q2
      go_wp2
      go_quiet (fail)
      go_wp2
      go_roundw
      case rel => exact ⟨k + 1, by omega, by go_num, below_drewN hb _⟩
      case measure => simp [intOf]; omega
    · go_wp2
      go_ret
      exact ⟨rfl, hb⟩

set_option maxHeartbeats 400000 in
theorem big_no (w : World) (A : Option Addr) (n c : Nat) (h : n ≤ 1048576) : Calls Tryz.prog 8 #[.slice A n c] w fun e w' => e = .returned (.bool false) ∧ w = w' := by
  go_enter Tryz.func8, Tryz.ntmps8
  go_wp2
  go_ret
  exact ⟨by first | rfl | (simp; omega), rfl⟩
set_option maxHeartbeats 400000 in
theorem big_yes (w : World) (A : Option Addr) (n c : Nat) (h : ¬ n ≤ 1048576) (h2 : n ≤ 9223372036854775807) : Calls Tryz.prog 8 #[.slice A n c] w fun e w' => e = .returned (.bool true) ∧ w = w' := by
  have h' : 1048576 < n := by omega
  go_enter Tryz.func8, Tryz.ntmps8
  go_wp2
  go_ret
  exact ⟨by first | rfl | (simp; omega), rfl⟩

theorem sum_take_bd {l : List Int} (hb : ∀ x ∈ l, 0 ≤ x ∧ x ≤ 1000) : ∀ k, 0 ≤ (l.take k).sum ∧ (l.take k).sum ≤ 1000 * k
  | 0 => by simp
  | k + 1 => by
    have ih := sum_take_bd hb k
    by_cases h : k < l.length
    · rw [List.take_succ_eq_append_getElem h, List.sum_append, List.sum_singleton]
      have := hb _ (List.getElem_mem h)
      omega
    · rw [List.take_of_length_le (by omega)] at ih ⊢
      omega
set_option maxHeartbeats 400000 in
theorem sum_ct (w : World) (v : Value) (l : List Int) (h : RdL FI w w.heap.size v l) (hb : ∀ x ∈ l, 0 ≤ x ∧ x ≤ 1000) (hl : l.length ≤ 1000) :
    Calls Tryz.prog 12 #[v] w fun e w' => e = .returned (.int .i64 l.sum) ∧ Below w.heap.size w w' := by
  obtain ⟨A, c, hv, q1, q2, _⟩ := id h
  subst hv
  clear q1 q2
  go_enter Tryz.func12, Tryz.ntmps12
  go_wp2
  go_loopw [3, 4] (fun n i wr => ∃ k : Nat, k ≤ l.length ∧ i = .int .i64 k ∧ n = .int .i64 (l.take k).sum ∧ Below w.heap.size w wr) (fun _ i _ => l.length - (intOf i).toNat)
  case atStart => exact ⟨0, Nat.zero_le _, rfl, rfl, Below.refl _ _⟩
  case round =>
    obtain ⟨k, hk, rfl, rfl, hB⟩ := hrel
    have hs := sum_take_bd hb k
    have hs1 := hs.1
    have hs2 := hs.2
    clear hs
    by_cases hlt : k < l.length
    · obtain ⟨g, off, cap', he, hg, _, _, hc⟩ := (h.below hB).at_ (List.getElem?_eq_getElem hlt)
      injection he with he1 he2 he3
      clear he2
      subst he1 he3
      have p0 : wr.cell? ⟨g, off + k, none⟩ = some (.int .i64 l[k]) := by simpa [FI] using hc 0 _ rfl
      have hx := hb _ (List.getElem_mem hlt)
      have hx1 := hx.1
      have hx2 := hx.2
      have HS := Hid.mk_ (show (l.take (k + 1)).sum = (l.take k).sum + l[k] by rw [List.take_succ_eq_append_getElem hlt, List.sum_append, List.sum_singleton])
      clear hc h hx
      generalize l[k] = y at *
      generalize (l.take k).sum = m at *
      go_wp2
      go_roundw
      case rel => exact ⟨k + 1, by omega, by go_num, by rw [HS.out], hB⟩
      case measure => simp [intOf]; omega
    · go_wp2
      go_ret
      obtain rfl : k = l.length := by omega
      exact ⟨ret_i64 (by simp), hB⟩
end Go.Proofs.YtkmggglljkmjoaaGreat

/-
  FnCounts, walked.
-/
namespace Go.Proofs.YtkmggglljkmjoaaGreat
open Go.RowKit
open Go.Proofs.YtkmggglljkmjoaaGreat.Lim

theorem counts_bd (m : Mem) : ∀ y ∈ countsP m, 0 ≤ y ∧ y ≤ 1000 := by
  intro y hy
  unfold countsP at hy
  split at hy
  · obtain ⟨j, hj⟩ := List.mem_iff_getElem?.1 hy
    have h := cntTo_bd m 24 j
    rw [List.getD_eq_getElem?_getD, hj] at h
    simp only [Option.getD_some] at h
    omega
  · simp at hy
    omega

set_option maxRecDepth 100000 in
set_option maxHeartbeats 8000000 in
theorem FnCounts_law (w : World) (v : Value) (code : List Int) (h : RdL FU8 w w.heap.size v code) (hcb : ∀ x ∈ code, 0 ≤ x ∧ x ≤ 255) :
    Calls Tryz.prog 4 #[v] w fun e w' => e = .returned (.bool true) ∧ Below w.heap.size w w' := by
  obtain ⟨A, c0, hv, q1, q2, _⟩ := id h
  have hlt0 : code.length ≤ 9223372036854775807 := by unfold maxLen at q2; omega
  subst hv
  clear q1 q2
  by_cases hs : code.length ≤ 1048576
  case neg =>
    go_enter Tryz.func4, Tryz.ntmps4
    go_wp2_with fail
    refine (big_yes _ _ _ _ hs hlt0).mono ?_
    rintro e w1 ⟨rfl, rfl⟩
    go_wp2_with fail
    go_ret
    exact ⟨rfl, Below.refl _ _⟩
  go_enter Tryz.func4, Tryz.ntmps4
  go_wp2_with fail
  refine (big_no _ _ _ _ hs).mono ?_
  rintro e w0 ⟨rfl, rfl⟩
  go_wp2_with fail
  refine (DrawCounts_ct _ _ code h hcb (by omega)).mono ?_
  rintro e wi ⟨H, x, rfl, o_m, hz, l_m, hB⟩
  clear h hcb hs hlt0
  have hs1 : szLL x.Lists.Global ≤ 536870912 := by unfold sizeMem sizeLists at hz; omega
  have hs2 : szLL x.Lists.Own ≤ 536870912 := by unfold sizeMem sizeLists at hz; omega
  clear hz
  have HBD := Hid.mk_ (counts_bd x)
  have HLN := Hid.mk_ (counts_len x)
  have HSM := Hid.mk_ (counts_sum x)
  by_cases ok : memOkB x = true
  case neg =>
    have ok' := (Bool.not_eq_true _).mp ok
    replace HSM := Hid.mk_ (counts_bad ok')
    have u_m := o_m.lt
    go_wp2_with fail
    refine (Counts_impl _ H x (o_m.alloc_ _).rd').mono ?_
    rintro e w1 ⟨v_l, rfl, o_l, l_l, hb⟩
    have u_l := foot_lt o_l
    simp only [World.size_alloc] at l_l
    replace o_m := o_m.step hb
    replace hB := below_step hB hb hB.size
    have sz := hb.size
    simp only [World.size_alloc] at sz
    have B_m := (Box.new wi #[.slice H.Heap.Bytes.a H.Heap.Bytes.len H.Heap.Bytes.cap, .slice H.Heap.Class.a H.Heap.Class.len H.Heap.Class.cap, .slice H.Lists.Global.a H.Lists.Global.len H.Lists.Global.cap, .slice H.Lists.Own.a H.Lists.Own.len H.Lists.Own.cap] 31).below hb
    have zz_m := B_m.lt
    clear hb
    have q_m_0 := B_m.cell 0 _ rfl
    have q_m_1 := B_m.cell 1 _ rfl
    have q_m_2 := B_m.cell 2 _ rfl
    have q_m_3 := B_m.cell 3 _ rfl
    have fr_m := B_m.fro
    have z_m := B_m.lt
    obtain ⟨A_l, c_l, hv, _⟩ := id o_l.rd'
    rw [HLN.out] at hv
    subst hv
    go_wp2_with fail
    refine (MemOk_spec _ H x o_m.rd' hs1 hs2).mono ?_
    rw [ok']
    rintro e w2 ⟨rfl, hb⟩
    replace B_m := B_m.below hb
    replace o_m := o_m.step0 hb
    have o_l := o_l.step0 hb
    replace hB := hB.trans (hb.mono hB.size)
    have sz := hb.size
    clear hb
    replace q_m_0 := B_m.cell 0 _ rfl
    replace q_m_1 := B_m.cell 1 _ rfl
    replace q_m_2 := B_m.cell 2 _ rfl
    replace q_m_3 := B_m.cell 3 _ rfl
    replace fr_m := B_m.fro
    replace z_m := B_m.lt
    go_wp2_with fail
    refine (sum_ct _ _ (countsP x) o_l.rd' HBD.out (by rw [HLN.out]; decide)).mono ?_
    rw [HSM.out]
    rintro e w3 ⟨rfl, hb⟩
    replace B_m := B_m.below hb
    replace o_m := o_m.step0 hb
    replace o_l := o_l.step0 hb
    replace hB := hB.trans (hb.mono hB.size)
    have sz := hb.size
    clear hb
    replace q_m_0 := B_m.cell 0 _ rfl
    replace q_m_1 := B_m.cell 1 _ rfl
    replace q_m_2 := B_m.cell 2 _ rfl
    replace q_m_3 := B_m.cell 3 _ rfl
    replace fr_m := B_m.fro
    replace z_m := B_m.lt
    go_wp2_with fail
    go_ret
    exact ⟨rfl, hB⟩
  replace HSM := Hid.mk_ (show (countsP x).sum = 24 by rw [counts_sum, if_pos ok])
  have hcv := counts_carved ok
  obtain ⟨y, hy⟩ : ∃ y, (countsP x)[0]? = some y := ⟨_, List.getElem?_eq_getElem (by rw [HLN.out]; decide)⟩
  rw [List.getD_eq_getElem?_getD, hy, Option.getD_some] at hcv
  have hy2 := HBD.out y (List.mem_of_getElem? hy)
  have hw : IntKind.i64.wrap (24 - y) = ((carvedP x.Heap).length : Int) := by rw [IntKind.wrap_i64]; omega
  have HY := Hid.mk_ hy
  have hcl : (carvedP x.Heap).length ≤ 24 := by omega
  clear hcv hy hy2
  have u_m := o_m.lt
  go_wp2_with fail
  refine (Counts_impl _ H x (o_m.alloc_ _).rd').mono ?_
  rintro e w1 ⟨v_l, rfl, o_l, l_l, hb⟩
  have u_l := foot_lt o_l
  simp only [World.size_alloc] at l_l
  replace o_m := o_m.step hb
  replace hB := below_step hB hb hB.size
  have sz := hb.size
  simp only [World.size_alloc] at sz
  have B_m := (Box.new wi #[.slice H.Heap.Bytes.a H.Heap.Bytes.len H.Heap.Bytes.cap, .slice H.Heap.Class.a H.Heap.Class.len H.Heap.Class.cap, .slice H.Lists.Global.a H.Lists.Global.len H.Lists.Global.cap, .slice H.Lists.Own.a H.Lists.Own.len H.Lists.Own.cap] 31).below hb
  have zz_m := B_m.lt
  clear hb
  have q_m_0 := B_m.cell 0 _ rfl
  have q_m_1 := B_m.cell 1 _ rfl
  have q_m_2 := B_m.cell 2 _ rfl
  have q_m_3 := B_m.cell 3 _ rfl
  have fr_m := B_m.fro
  have z_m := B_m.lt
  obtain ⟨A_l, c_l, hv, _⟩ := id o_l.rd'
  rw [HLN.out] at hv
  subst hv
  go_wp2_with fail
  refine (MemOk_spec _ H x o_m.rd' hs1 hs2).mono ?_
  rw [ok]
  rintro e w2 ⟨rfl, hb⟩
  replace B_m := B_m.below hb
  replace o_m := o_m.step0 hb
  have o_l := o_l.step0 hb
  replace hB := hB.trans (hb.mono hB.size)
  have sz := hb.size
  clear hb
  replace q_m_0 := B_m.cell 0 _ rfl
  replace q_m_1 := B_m.cell 1 _ rfl
  replace q_m_2 := B_m.cell 2 _ rfl
  replace q_m_3 := B_m.cell 3 _ rfl
  replace fr_m := B_m.fro
  replace z_m := B_m.lt
  obtain ⟨gl, cl, hvl, hgl⟩ := OwL.form_pos o_l (by rw [HLN.out]; decide)
  rw [HLN.out] at hvl
  injection hvl with i1 _ i3
  subst i1 i3
  have p0 := Lim.OwL.cellI o_l HY.out
  go_wp2_with fail
  go_region_held3 (fun w' => w'.cell? ⟨wi.heap.size, 0, none⟩ = some (.slice H.Heap.Bytes.a H.Heap.Bytes.len H.Heap.Bytes.cap) ∧ w'.cell? ⟨wi.heap.size, 1, none⟩ = some (.slice H.Heap.Class.a H.Heap.Class.len H.Heap.Class.cap) ∧ w'.cell? ⟨wi.heap.size, 2, none⟩ = some (.slice H.Lists.Global.a H.Lists.Global.len H.Lists.Global.cap) ∧ w'.cell? ⟨wi.heap.size, 3, none⟩ = some (.slice H.Lists.Own.a H.Lists.Own.len H.Lists.Own.cap) ∧ w'.cell? ⟨gl, 0, none⟩ = some (.int .i64 y)) (first | (with_reducible exact ⟨q_m_0, q_m_1, q_m_2, q_m_3, p0⟩) | (refine ⟨?_, ?_, ?_, ?_, ?_⟩ <;> (repeat (first | with_reducible assumption | with_reducible refine cell_set_o ?_ (by omega) | with_reducible refine cell_alloc_o ?_ (by omega) | with_reducible refine cell_drew_o ?_)); done) | (go_keep; done)) (first | (go_at_call 12; (first | ((with_reducible refine (sum_ct _ _ (countsP x) o_l.rd' HBD.out (by rw [HLN.out]; decide)).mono ?_); rw [HSM.out]; rintro e wq ⟨rfl, hb⟩; replace B_m := B_m.below hb; replace o_m := o_m.step0 hb; replace o_l := o_l.step0 hb; (try replace o_c := o_c.step0 hb); (try replace o_s := o_s.step0 hb); replace hB := hB.trans (hb.mono hB.size); have sz := hb.size; clear hb; replace q_m_0 := B_m.cell 0 _ rfl; replace q_m_1 := B_m.cell 1 _ rfl; replace q_m_2 := B_m.cell 2 _ rfl; replace q_m_3 := B_m.cell 3 _ rfl; replace fr_m := B_m.fro; replace z_m := B_m.lt; replace p0 := Lim.OwL.cellI o_l HY.out) | ((with_reducible refine (sum_ct _ _ (countsP x) (OwL.drew_ o_l).rd' HBD.out (by rw [HLN.out]; decide)).mono ?_); rw [HSM.out]; rintro e wq ⟨rfl, hb⟩; replace hb := undrew hb; replace B_m := B_m.below hb; replace o_m := o_m.step0 hb; replace o_l := o_l.step0 hb; (try replace o_c := o_c.step0 hb); (try replace o_s := o_s.step0 hb); replace hB := hB.trans (hb.mono hB.size); have sz := hb.size; clear hb; replace q_m_0 := B_m.cell 0 _ rfl; replace q_m_1 := B_m.cell 1 _ rfl; replace q_m_2 := B_m.cell 2 _ rfl; replace q_m_3 := B_m.cell 3 _ rfl; replace fr_m := B_m.fro; replace z_m := B_m.lt; replace p0 := Lim.OwL.cellI o_l HY.out))) | (go_at_call 20; (first | ((with_reducible refine (Carved_spec _ H.Heap x.Heap o_m.rd'.Heap).mono ?_); rintro e wq ⟨v_c, rfl, o_c, l_c, hb⟩; have u_c := foot_lt o_c; replace B_m := B_m.below hb; replace o_m := o_m.step0 hb; replace o_l := o_l.step0 hb; (try replace o_s := o_s.step0 hb); replace hB := hB.trans (hb.mono hB.size); have sz := hb.size; clear hb; replace q_m_0 := B_m.cell 0 _ rfl; replace q_m_1 := B_m.cell 1 _ rfl; replace q_m_2 := B_m.cell 2 _ rfl; replace q_m_3 := B_m.cell 3 _ rfl; replace fr_m := B_m.fro; replace z_m := B_m.lt; replace p0 := Lim.OwL.cellI o_l HY.out; obtain ⟨A_c, c_c, hv, _⟩ := id o_c.rd'; subst hv) | ((with_reducible refine (Carved_spec _ H.Heap x.Heap (o_m.drew_).rd'.Heap).mono ?_); rintro e wq ⟨v_c, rfl, o_c, l_c, hb⟩; replace hb := undrew hb; replace l_c := fcdrew l_c; have u_c := foot_lt o_c; replace B_m := B_m.below hb; replace o_m := o_m.step0 hb; replace o_l := o_l.step0 hb; (try replace o_s := o_s.step0 hb); replace hB := hB.trans (hb.mono hB.size); have sz := hb.size; clear hb; replace q_m_0 := B_m.cell 0 _ rfl; replace q_m_1 := B_m.cell 1 _ rfl; replace q_m_2 := B_m.cell 2 _ rfl; replace q_m_3 := B_m.cell 3 _ rfl; replace fr_m := B_m.fro; replace z_m := B_m.lt; replace p0 := Lim.OwL.cellI o_l HY.out; obtain ⟨A_c, c_c, hv, _⟩ := id o_c.rd'; subst hv))) | (go_at_call 22; (first | ((with_reducible refine (Counts_spec _ H x o_m.rd' hs1 hs2).mono ?_); rintro e wq ⟨v_s, rfl, o_s, l_s, hb⟩; have u_s := foot_lt o_s; replace B_m := B_m.below hb; replace o_m := o_m.step0 hb; replace o_l := o_l.step0 hb; (try replace o_c := o_c.step0 hb); replace hB := hB.trans (hb.mono hB.size); have sz := hb.size; clear hb; replace q_m_0 := B_m.cell 0 _ rfl; replace q_m_1 := B_m.cell 1 _ rfl; replace q_m_2 := B_m.cell 2 _ rfl; replace q_m_3 := B_m.cell 3 _ rfl; replace fr_m := B_m.fro; replace z_m := B_m.lt; replace p0 := Lim.OwL.cellI o_l HY.out) | ((with_reducible refine (Counts_spec _ H x (o_m.drew_).rd' hs1 hs2).mono ?_); rintro e wq ⟨v_s, rfl, o_s, l_s, hb⟩; replace hb := undrew hb; replace l_s := fcdrew l_s; have u_s := foot_lt o_s; replace B_m := B_m.below hb; replace o_m := o_m.step0 hb; replace o_l := o_l.step0 hb; (try replace o_c := o_c.step0 hb); replace hB := hB.trans (hb.mono hB.size); have sz := hb.size; clear hb; replace q_m_0 := B_m.cell 0 _ rfl; replace q_m_1 := B_m.cell 1 _ rfl; replace q_m_2 := B_m.cell 2 _ rfl; replace q_m_3 := B_m.cell 3 _ rfl; replace fr_m := B_m.fro; replace z_m := B_m.lt; replace p0 := Lim.OwL.cellI o_l HY.out))) | (go_at_call 21; (first | ((with_reducible refine (sameInts_ct _ _ _ (countsP x) o_l.rd' o_s.rd' (by rw [HLN.out]; decide)).mono ?_); rintro e wq ⟨rfl, hb⟩; replace B_m := B_m.below hb; replace o_m := o_m.step0 hb; replace o_l := o_l.step0 hb; (try replace o_c := o_c.step0 hb); (try replace o_s := o_s.step0 hb); replace hB := hB.trans (hb.mono hB.size); have sz := hb.size; clear hb; replace q_m_0 := B_m.cell 0 _ rfl; replace q_m_1 := B_m.cell 1 _ rfl; replace q_m_2 := B_m.cell 2 _ rfl; replace q_m_3 := B_m.cell 3 _ rfl; replace fr_m := B_m.fro; replace z_m := B_m.lt; replace p0 := Lim.OwL.cellI o_l HY.out) | ((with_reducible refine (sameInts_ct _ _ _ (countsP x) (OwL.drew_ o_l).rd' (OwL.drew_ o_s).rd' (by rw [HLN.out]; decide)).mono ?_); rintro e wq ⟨rfl, hb⟩; replace hb := undrew hb; replace B_m := B_m.below hb; replace o_m := o_m.step0 hb; replace o_l := o_l.step0 hb; (try replace o_c := o_c.step0 hb); (try replace o_s := o_s.step0 hb); replace hB := hB.trans (hb.mono hB.size); have sz := hb.size; clear hb; replace q_m_0 := B_m.cell 0 _ rfl; replace q_m_1 := B_m.cell 1 _ rfl; replace q_m_2 := B_m.cell 2 _ rfl; replace q_m_3 := B_m.cell 3 _ rfl; replace fr_m := B_m.fro; replace z_m := B_m.lt; replace p0 := Lim.OwL.cellI o_l HY.out))))
  all_goals
    go_wp2_with fail
    go_ret
    exact ⟨rfl, hB⟩
end Go.Proofs.YtkmggglljkmjoaaGreat

