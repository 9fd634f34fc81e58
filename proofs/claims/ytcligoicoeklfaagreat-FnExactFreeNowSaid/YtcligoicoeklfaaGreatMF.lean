/-
  FnExactFreeNow, walked.
-/
import Derived.Test.YtcligoicoeklfaaGreatT
import Derived.Test.YtcligoicoeklfaaGreatL
import Derived.Deep.QuietTactic
import Derived.BigQuiet
import Derived.Deep.LoopGhost
import Derived.Deep.RegionHeld3
import Derived.Test.YtcligoicoeklfaaGreatN
import Derived.Test.YtcligoicoeklfaaGreatA
import Derived.WalkSpells
import Derived.Laws.Cover3
import Derived.Test.YtcligoicoeklfaaGreatG7
import Derived.Test.YtcligoicoeklfaaGreatG4
import Derived.Deep.CutRange
namespace Go.Proofs.YtcligoicoeklfaaGreat
open Go.RowKit

theorem putAt_le (b : List Int) (a : Nat) (ds : List Int) : (putAt b a ds).length ≤ b.length + ds.length := by
  simp [putAt]
  omega
theorem getD_le {α : Type} (ll : List (List α)) (k : Nat) : (ll.getD k []).length ≤ szLL ll := by
  rw [List.getD]
  cases h : ll[k]? with
  | none => exact Nat.zero_le _
  | some l => exact le_szLL (List.mem_of_getElem? h)
theorem giveL_size (x : Lists) (k c : Nat) (s : Int) : sizeLists (giveL x k c s) ≤ 2 * sizeLists x + 1 := by
  unfold giveL sizeLists
  have h1 := szLL_set_le x.Own k (x.Own.getD k [] ++ [s])
  have h2 := getD_le x.Own k
  have h3 := szLL_set_le x.Global c (x.Global.getD c [] ++ [s])
  have h4 := getD_le x.Global c
  rw [List.length_append, List.length_singleton] at h1 h3
  split
  · simp only
    omega
  · simp only
    omega
theorem free_size (m : Mem) (w h : Int) : sizeMem (freeP m w h).1 ≤ 2 * sizeMem m + 5 := by
  unfold freeP
  split
  · simp only
    omega
  · split
    · simp only
      omega
    · unfold freedM setGenB sizeMem sizeHeap
      simp only
      have h1 := putAt_le m.Heap.Bytes (genAt (h % 32) (classInB m.Heap (h % 32))).toNat (digs 4 (genInB m.Heap (h % 32) + 1))
      rw [digs_len] at h1
      split
      · have := giveL_size m.Lists (w.toNat * 3 + (classInB m.Heap (h % 32)).toNat) (classInB m.Heap (h % 32)).toNat (h % 32)
        omega
      · omega

theorem FreeNow_implS (w : World) (H : HMem) (x : Mem) (wk a : Int) (h : RdMem w w.heap.size H x) (hs : sizeMem x ≤ 1048576) :
    Calls Tryz.prog 9 #[.agg #[.slice H.Heap.Bytes.a H.Heap.Bytes.len H.Heap.Bytes.cap, .slice H.Heap.Class.a H.Heap.Class.len H.Heap.Class.cap, .slice H.Lists.Global.a H.Lists.Global.len H.Lists.Global.cap, .slice H.Lists.Own.a H.Lists.Own.len H.Lists.Own.cap], .int .i64 wk, .int .i64 a] w fun e w' => ∃ H' : HMem, e = .returned (.tuple #[.agg #[.slice H'.Heap.Bytes.a H'.Heap.Bytes.len H'.Heap.Bytes.cap, .slice H'.Heap.Class.a H'.Heap.Class.len H'.Heap.Class.cap, .slice H'.Lists.Global.a H'.Lists.Global.len H'.Lists.Global.cap, .slice H'.Lists.Own.a H'.Lists.Own.len H'.Lists.Own.cap], .int .i64 (freeP x wk a).2]) ∧ OwMem w' H' (freeP x wk a).1 ∧ (∀ g ∈ H'.foot, w.heap.size ≤ g) ∧ Below w.heap.size w w' := FreeNow_impl w H x wk a h (by omega)

theorem FreeNow_specS (w : World) (H : HMem) (x : Mem) (wk a : Int) (h : RdMem w w.heap.size H x) (hs : sizeMem x ≤ 1048576) :
    Calls Tryz.prog 7 #[.agg #[.slice H.Heap.Bytes.a H.Heap.Bytes.len H.Heap.Bytes.cap, .slice H.Heap.Class.a H.Heap.Class.len H.Heap.Class.cap, .slice H.Lists.Global.a H.Lists.Global.len H.Lists.Global.cap, .slice H.Lists.Own.a H.Lists.Own.len H.Lists.Own.cap], .int .i64 wk, .int .i64 a] w fun e w' => ∃ H' : HMem, e = .returned (.tuple #[.agg #[.slice H'.Heap.Bytes.a H'.Heap.Bytes.len H'.Heap.Bytes.cap, .slice H'.Heap.Class.a H'.Heap.Class.len H'.Heap.Class.cap, .slice H'.Lists.Global.a H'.Lists.Global.len H'.Lists.Global.cap, .slice H'.Lists.Own.a H'.Lists.Own.len H'.Lists.Own.cap], .int .i64 (freeP x wk a).2]) ∧ OwMem w' H' (freeP x wk a).1 ∧ (∀ g ∈ H'.foot, w.heap.size ≤ g) ∧ Below w.heap.size w w' := FreeNow_spec w H x wk a h (by omega)

set_option maxRecDepth 100000 in
set_option maxHeartbeats 4000000 in
theorem FnExactFreeNow_law (w : World) (K0 : HMem) (x0 : Mem) (wk : Int) (a : Int) (h0 : RdMem w w.heap.size K0 x0) :
    Calls Tryz.prog 3 #[.agg #[.slice K0.Heap.Bytes.a K0.Heap.Bytes.len K0.Heap.Bytes.cap, .slice K0.Heap.Class.a K0.Heap.Class.len K0.Heap.Class.cap, .slice K0.Lists.Global.a K0.Lists.Global.len K0.Lists.Global.cap, .slice K0.Lists.Own.a K0.Lists.Own.len K0.Lists.Own.cap], .int .i64 wk, .int .i64 a] w fun e w' => e = .returned (.bool true) ∧ Below w.heap.size w w' := by
  by_cases hs0' : sizeMem x0 ≤ 1048576
  case neg =>
    have HL := Hid.mk_ (leftOf_neg hs0')
    go_enter Tryz.func3, Tryz.ntmps3
    go_wp2_with fail
    have hB : Below w.heap.size w (w.alloc (.cells #[.slice K0.Heap.Bytes.a K0.Heap.Bytes.len K0.Heap.Bytes.cap, .slice K0.Heap.Class.a K0.Heap.Class.len K0.Heap.Class.cap, .slice K0.Lists.Global.a K0.Lists.Global.len K0.Lists.Global.cap, .slice K0.Lists.Own.a K0.Lists.Own.len K0.Lists.Own.cap] 29)) := by repeat (first | exact Below.refl _ _ | refine Below.alloc ?_ (by simp <;> omega) _ | refine below_grow_of ?_ (by simp <;> omega) _ _ | refine Below.drew ?_ | refine below_drewN ?_ _)
    have hB0 := hB
    have b0_0 : ((w.alloc (.cells #[.slice K0.Heap.Bytes.a K0.Heap.Bytes.len K0.Heap.Bytes.cap, .slice K0.Heap.Class.a K0.Heap.Class.len K0.Heap.Class.cap, .slice K0.Lists.Global.a K0.Lists.Global.len K0.Lists.Global.cap, .slice K0.Lists.Own.a K0.Lists.Own.len K0.Lists.Own.cap] 29))).cell? ⟨w.heap.size, 0, none⟩ = some (.slice K0.Heap.Bytes.a K0.Heap.Bytes.len K0.Heap.Bytes.cap) := by simp [go_sem]
    have b0_1 : ((w.alloc (.cells #[.slice K0.Heap.Bytes.a K0.Heap.Bytes.len K0.Heap.Bytes.cap, .slice K0.Heap.Class.a K0.Heap.Class.len K0.Heap.Class.cap, .slice K0.Lists.Global.a K0.Lists.Global.len K0.Lists.Global.cap, .slice K0.Lists.Own.a K0.Lists.Own.len K0.Lists.Own.cap] 29))).cell? ⟨w.heap.size, 1, none⟩ = some (.slice K0.Heap.Class.a K0.Heap.Class.len K0.Heap.Class.cap) := by simp [go_sem]
    have b0_2 : ((w.alloc (.cells #[.slice K0.Heap.Bytes.a K0.Heap.Bytes.len K0.Heap.Bytes.cap, .slice K0.Heap.Class.a K0.Heap.Class.len K0.Heap.Class.cap, .slice K0.Lists.Global.a K0.Lists.Global.len K0.Lists.Global.cap, .slice K0.Lists.Own.a K0.Lists.Own.len K0.Lists.Own.cap] 29))).cell? ⟨w.heap.size, 2, none⟩ = some (.slice K0.Lists.Global.a K0.Lists.Global.len K0.Lists.Global.cap) := by simp [go_sem]
    have b0_3 : ((w.alloc (.cells #[.slice K0.Heap.Bytes.a K0.Heap.Bytes.len K0.Heap.Bytes.cap, .slice K0.Heap.Class.a K0.Heap.Class.len K0.Heap.Class.cap, .slice K0.Lists.Global.a K0.Lists.Global.len K0.Lists.Global.cap, .slice K0.Lists.Own.a K0.Lists.Own.len K0.Lists.Own.cap] 29))).cell? ⟨w.heap.size, 3, none⟩ = some (.slice K0.Lists.Own.a K0.Lists.Own.len K0.Lists.Own.cap) := by simp [go_sem]
    have z0 : w.heap.size < ((w.alloc (.cells #[.slice K0.Heap.Bytes.a K0.Heap.Bytes.len K0.Heap.Bytes.cap, .slice K0.Heap.Class.a K0.Heap.Class.len K0.Heap.Class.cap, .slice K0.Lists.Global.a K0.Lists.Global.len K0.Lists.Global.cap, .slice K0.Lists.Own.a K0.Lists.Own.len K0.Lists.Own.cap] 29))).heap.size := by simp <;> omega
    generalize hW : (w.alloc (.cells #[.slice K0.Heap.Bytes.a K0.Heap.Bytes.len K0.Heap.Bytes.cap, .slice K0.Heap.Class.a K0.Heap.Class.len K0.Heap.Class.cap, .slice K0.Lists.Global.a K0.Lists.Global.len K0.Lists.Global.cap, .slice K0.Lists.Own.a K0.Lists.Own.len K0.Lists.Own.cap] 29)) = w0 at hB hB0 b0_0 b0_1 b0_2 b0_3 z0 ⊢
    clear hW
    have zz0 := z0
    refine (szMem_ct _ K0 x0 1048576 (rdMem_up h0 hB) (by omega)).mono ?_
    rw [HL.out]
    rintro e w1 ⟨rfl, hb⟩
    replace hB := below_step0 hB hb hB.size
    have sz := hb.size
    replace b0_0 := cell_up hb z0 b0_0
    replace b0_1 := cell_up hb z0 b0_1
    replace b0_2 := cell_up hb z0 b0_2
    replace b0_3 := cell_up hb z0 b0_3
    replace z0 := lt_step0 z0 hb
    clear hb
    go_wp2_with fail
    go_ret
    exact ⟨rfl, hB⟩
  obtain ⟨r0, HL0, hr0⟩ : ∃ r : Nat, Hid (leftOf 1048576 (sizeMem x0) = (r : Int)) ∧ r + sizeMem x0 = 1048576 := ⟨1048576 - sizeMem x0, Hid.mk_ (by rw [leftOf_pos hs0']; omega), by omega⟩
  have hn0 := nMark_size_Mem x0
  have hl1 := free_size x0 wk a
  have hl2 := nMark_size_Mem (freeP x0 wk a).1
  clear hs0'
  go_enter Tryz.func3, Tryz.ntmps3
  go_wp2_with fail
  have hB : Below w.heap.size w (w.alloc (.cells #[.slice K0.Heap.Bytes.a K0.Heap.Bytes.len K0.Heap.Bytes.cap, .slice K0.Heap.Class.a K0.Heap.Class.len K0.Heap.Class.cap, .slice K0.Lists.Global.a K0.Lists.Global.len K0.Lists.Global.cap, .slice K0.Lists.Own.a K0.Lists.Own.len K0.Lists.Own.cap] 29)) := by repeat (first | exact Below.refl _ _ | refine Below.alloc ?_ (by simp <;> omega) _ | refine below_grow_of ?_ (by simp <;> omega) _ _ | refine Below.drew ?_ | refine below_drewN ?_ _)
  have hB0 := hB
  have b0_0 : ((w.alloc (.cells #[.slice K0.Heap.Bytes.a K0.Heap.Bytes.len K0.Heap.Bytes.cap, .slice K0.Heap.Class.a K0.Heap.Class.len K0.Heap.Class.cap, .slice K0.Lists.Global.a K0.Lists.Global.len K0.Lists.Global.cap, .slice K0.Lists.Own.a K0.Lists.Own.len K0.Lists.Own.cap] 29))).cell? ⟨w.heap.size, 0, none⟩ = some (.slice K0.Heap.Bytes.a K0.Heap.Bytes.len K0.Heap.Bytes.cap) := by simp [go_sem]
  have b0_1 : ((w.alloc (.cells #[.slice K0.Heap.Bytes.a K0.Heap.Bytes.len K0.Heap.Bytes.cap, .slice K0.Heap.Class.a K0.Heap.Class.len K0.Heap.Class.cap, .slice K0.Lists.Global.a K0.Lists.Global.len K0.Lists.Global.cap, .slice K0.Lists.Own.a K0.Lists.Own.len K0.Lists.Own.cap] 29))).cell? ⟨w.heap.size, 1, none⟩ = some (.slice K0.Heap.Class.a K0.Heap.Class.len K0.Heap.Class.cap) := by simp [go_sem]
  have b0_2 : ((w.alloc (.cells #[.slice K0.Heap.Bytes.a K0.Heap.Bytes.len K0.Heap.Bytes.cap, .slice K0.Heap.Class.a K0.Heap.Class.len K0.Heap.Class.cap, .slice K0.Lists.Global.a K0.Lists.Global.len K0.Lists.Global.cap, .slice K0.Lists.Own.a K0.Lists.Own.len K0.Lists.Own.cap] 29))).cell? ⟨w.heap.size, 2, none⟩ = some (.slice K0.Lists.Global.a K0.Lists.Global.len K0.Lists.Global.cap) := by simp [go_sem]
  have b0_3 : ((w.alloc (.cells #[.slice K0.Heap.Bytes.a K0.Heap.Bytes.len K0.Heap.Bytes.cap, .slice K0.Heap.Class.a K0.Heap.Class.len K0.Heap.Class.cap, .slice K0.Lists.Global.a K0.Lists.Global.len K0.Lists.Global.cap, .slice K0.Lists.Own.a K0.Lists.Own.len K0.Lists.Own.cap] 29))).cell? ⟨w.heap.size, 3, none⟩ = some (.slice K0.Lists.Own.a K0.Lists.Own.len K0.Lists.Own.cap) := by simp [go_sem]
  have z0 : w.heap.size < ((w.alloc (.cells #[.slice K0.Heap.Bytes.a K0.Heap.Bytes.len K0.Heap.Bytes.cap, .slice K0.Heap.Class.a K0.Heap.Class.len K0.Heap.Class.cap, .slice K0.Lists.Global.a K0.Lists.Global.len K0.Lists.Global.cap, .slice K0.Lists.Own.a K0.Lists.Own.len K0.Lists.Own.cap] 29))).heap.size := by simp <;> omega
  generalize hW : (w.alloc (.cells #[.slice K0.Heap.Bytes.a K0.Heap.Bytes.len K0.Heap.Bytes.cap, .slice K0.Heap.Class.a K0.Heap.Class.len K0.Heap.Class.cap, .slice K0.Lists.Global.a K0.Lists.Global.len K0.Lists.Global.cap, .slice K0.Lists.Own.a K0.Lists.Own.len K0.Lists.Own.cap] 29)) = w0 at hB hB0 b0_0 b0_1 b0_2 b0_3 z0 ⊢
  clear hW
  have zz0 := z0
  refine (szMem_ct _ K0 x0 1048576 (rdMem_up h0 hB) (by omega)).mono ?_
  rw [HL0.out]
  rintro e w1 ⟨rfl, hb⟩
  replace hB := below_step0 hB hb hB.size
  have sz := hb.size
  replace b0_0 := cell_up hb z0 b0_0
  replace b0_1 := cell_up hb z0 b0_1
  replace b0_2 := cell_up hb z0 b0_2
  replace b0_3 := cell_up hb z0 b0_3
  replace z0 := lt_step0 z0 hb
  clear hb
  go_wp2_with fail
  refine (toMem_ct _ K0 x0 (rdMem_up h0 hB) (by omega)).mono ?_
  rintro e w2 ⟨K_a0, rfl, o_a0, lb_a0, hb⟩
  replace hB := below_step0 hB hb hB.size
  have sz := hb.size
  replace b0_0 := cell_up hb z0 b0_0
  replace b0_1 := cell_up hb z0 b0_1
  replace b0_2 := cell_up hb z0 b0_2
  replace b0_3 := cell_up hb z0 b0_3
  replace z0 := lt_step0 z0 hb
  clear hb
  have ub_a0 := o_a0.lt
  go_wp2_with fail
  refine (FreeNow_specS _ _ x0 wk a  o_a0.rd' (by omega)).mono ?_
  rintro e w3 ⟨K_W, rfl, o_W, lb_W, hb⟩
  replace hB := below_step0 hB hb hB.size
  have sz := hb.size
  replace b0_0 := cell_up hb z0 b0_0
  replace b0_1 := cell_up hb z0 b0_1
  replace b0_2 := cell_up hb z0 b0_2
  replace b0_3 := cell_up hb z0 b0_3
  replace z0 := lt_step0 z0 hb
  replace o_a0 := o_a0.step0 hb
  clear hb
  have ub_W := o_W.lt
  go_wp2_with fail
  refine (toMem_ct _ K0 x0 (rdMem_up h0 (hB.alloc hB.size _)) (by omega)).mono ?_
  rintro e w4 ⟨K_x0, rfl, o_x0, lb_x0, hb⟩
  simp only [World.size_alloc] at lb_x0
  replace hB := below_step hB hb hB.size
  have sz := hb.size
  simp only [World.size_alloc] at sz
  replace b0_0 := up2 hb z0 b0_0
  replace b0_1 := up2 hb z0 b0_1
  replace b0_2 := up2 hb z0 b0_2
  replace b0_3 := up2 hb z0 b0_3
  replace z0 := lt_step z0 hb
  have b1_0 := new_cell hb (j := 0) rfl
  have b1_1 := new_cell hb (j := 1) rfl
  have b1_2 := new_cell hb (j := 2) rfl
  have b1_3 := new_cell hb (j := 3) rfl
  have z1 := new_lt hb
  have zz1 := z1
  replace o_a0 := o_a0.step hb
  replace o_W := o_W.step hb
  clear hb
  have ub_x0 := o_x0.lt
  go_wp2_with fail
  refine (FreeNow_implS _ _ x0 wk a  (o_x0.alloc_ _).rd' (by omega)).mono ?_
  rintro e w5 ⟨K_G, rfl, o_G, lb_G, hb⟩
  simp only [World.size_alloc] at lb_G
  replace hB := below_step hB hb hB.size
  have sz := hb.size
  simp only [World.size_alloc] at sz
  replace b0_0 := up2 hb z0 b0_0
  replace b0_1 := up2 hb z0 b0_1
  replace b0_2 := up2 hb z0 b0_2
  replace b0_3 := up2 hb z0 b0_3
  replace z0 := lt_step z0 hb
  replace b1_0 := up2 hb z1 b1_0
  replace b1_1 := up2 hb z1 b1_1
  replace b1_2 := up2 hb z1 b1_2
  replace b1_3 := up2 hb z1 b1_3
  replace z1 := lt_step z1 hb
  have b2_0 := new_cell hb (j := 0) rfl
  have b2_1 := new_cell hb (j := 1) rfl
  have b2_2 := new_cell hb (j := 2) rfl
  have b2_3 := new_cell hb (j := 3) rfl
  have z2 := new_lt hb
  have zz2 := z2
  replace o_a0 := o_a0.step hb
  replace o_W := o_W.step hb
  replace o_x0 := o_x0.step hb
  clear hb
  have ub_G := o_G.lt
  go_wp2_with fail
  refine (eqMem_ct _ _ _ _ (o_G.alloc_ _).rd' (o_W.alloc_ _).rd' (by omega)).mono ?_
  rintro e w6 ⟨rfl, hb⟩
  replace hB := below_step hB hb hB.size
  have sz := hb.size
  simp only [World.size_alloc] at sz
  replace b0_0 := up2 hb z0 b0_0
  replace b0_1 := up2 hb z0 b0_1
  replace b0_2 := up2 hb z0 b0_2
  replace b0_3 := up2 hb z0 b0_3
  replace z0 := lt_step z0 hb
  replace b1_0 := up2 hb z1 b1_0
  replace b1_1 := up2 hb z1 b1_1
  replace b1_2 := up2 hb z1 b1_2
  replace b1_3 := up2 hb z1 b1_3
  replace z1 := lt_step z1 hb
  replace b2_0 := up2 hb z2 b2_0
  replace b2_1 := up2 hb z2 b2_1
  replace b2_2 := up2 hb z2 b2_2
  replace b2_3 := up2 hb z2 b2_3
  replace z2 := lt_step z2 hb
  have b3_0 := new_cell hb (j := 0) rfl
  have b3_1 := new_cell hb (j := 1) rfl
  have b3_2 := new_cell hb (j := 2) rfl
  have b3_3 := new_cell hb (j := 3) rfl
  have z3 := new_lt hb
  have zz3 := z3
  replace o_a0 := o_a0.step hb
  replace o_W := o_W.step hb
  replace o_x0 := o_x0.step hb
  replace o_G := o_G.step hb
  clear hb
  go_upto_region 10 with (fail)
  go_cut [53] from 49 to 53 (fun r wx => r = .bool false ∧ Below w.heap.size w wx ∧ wx.cell? ⟨w.heap.size, 0, none⟩ = some (.slice K0.Heap.Bytes.a K0.Heap.Bytes.len K0.Heap.Bytes.cap) ∧ wx.cell? ⟨w.heap.size, 1, none⟩ = some (.slice K0.Heap.Class.a K0.Heap.Class.len K0.Heap.Class.cap) ∧ wx.cell? ⟨w.heap.size, 2, none⟩ = some (.slice K0.Lists.Global.a K0.Lists.Global.len K0.Lists.Global.cap) ∧ wx.cell? ⟨w.heap.size, 3, none⟩ = some (.slice K0.Lists.Own.a K0.Lists.Own.len K0.Lists.Own.cap) ∧ w.heap.size < wx.heap.size ∧ wx.cell? ⟨w3.heap.size, 0, none⟩ = some (.slice K_W.Heap.Bytes.a K_W.Heap.Bytes.len K_W.Heap.Bytes.cap) ∧ wx.cell? ⟨w3.heap.size, 1, none⟩ = some (.slice K_W.Heap.Class.a K_W.Heap.Class.len K_W.Heap.Class.cap) ∧ wx.cell? ⟨w3.heap.size, 2, none⟩ = some (.slice K_W.Lists.Global.a K_W.Lists.Global.len K_W.Lists.Global.cap) ∧ wx.cell? ⟨w3.heap.size, 3, none⟩ = some (.slice K_W.Lists.Own.a K_W.Lists.Own.len K_W.Lists.Own.cap) ∧ w3.heap.size < wx.heap.size ∧ wx.cell? ⟨w4.heap.size, 0, none⟩ = some (.slice K_x0.Heap.Bytes.a K_x0.Heap.Bytes.len K_x0.Heap.Bytes.cap) ∧ wx.cell? ⟨w4.heap.size, 1, none⟩ = some (.slice K_x0.Heap.Class.a K_x0.Heap.Class.len K_x0.Heap.Class.cap) ∧ wx.cell? ⟨w4.heap.size, 2, none⟩ = some (.slice K_x0.Lists.Global.a K_x0.Lists.Global.len K_x0.Lists.Global.cap) ∧ wx.cell? ⟨w4.heap.size, 3, none⟩ = some (.slice K_x0.Lists.Own.a K_x0.Lists.Own.len K_x0.Lists.Own.cap) ∧ w4.heap.size < wx.heap.size ∧ wx.cell? ⟨w5.heap.size, 0, none⟩ = some (.slice K_G.Heap.Bytes.a K_G.Heap.Bytes.len K_G.Heap.Bytes.cap) ∧ wx.cell? ⟨w5.heap.size, 1, none⟩ = some (.slice K_G.Heap.Class.a K_G.Heap.Class.len K_G.Heap.Class.cap) ∧ wx.cell? ⟨w5.heap.size, 2, none⟩ = some (.slice K_G.Lists.Global.a K_G.Lists.Global.len K_G.Lists.Global.cap) ∧ wx.cell? ⟨w5.heap.size, 3, none⟩ = some (.slice K_G.Lists.Own.a K_G.Lists.Own.len K_G.Lists.Own.cap) ∧ w5.heap.size < wx.heap.size ∧ OwMem wx K_W ((freeP x0 wk a).1) ∧ OwMem wx K_x0 x0 ∧ OwMem wx K_G ((freeP x0 wk a).1))
  case first =>
    go_region_with (first | (go_at_call 8; (first | ((with_reducible refine (toMem_ct _ K0 x0 (rdMem_up h0 hB) (by omega)).mono ?_); rintro e wq ⟨K_c0, rfl, o_c0, lb_c0, hb⟩) | ((with_reducible refine (toMem_ct _ K0 x0 (rdMem_up h0 hB.drew) (by omega)).mono ?_); rintro e wq ⟨K_c0, rfl, o_c0, lb_c0, hb⟩; replace hb := undrew hb; replace lb_c0 := fcdrew lb_c0)); replace hB := below_step0 hB hb hB.size; have sz := hb.size; replace b0_0 := cell_up hb z0 b0_0; replace b0_1 := cell_up hb z0 b0_1; replace b0_2 := cell_up hb z0 b0_2; replace b0_3 := cell_up hb z0 b0_3; replace z0 := lt_step0 z0 hb; replace b1_0 := cell_up hb z1 b1_0; replace b1_1 := cell_up hb z1 b1_1; replace b1_2 := cell_up hb z1 b1_2; replace b1_3 := cell_up hb z1 b1_3; replace z1 := lt_step0 z1 hb; replace b2_0 := cell_up hb z2 b2_0; replace b2_1 := cell_up hb z2 b2_1; replace b2_2 := cell_up hb z2 b2_2; replace b2_3 := cell_up hb z2 b2_3; replace z2 := lt_step0 z2 hb; replace b3_0 := cell_up hb z3 b3_0; replace b3_1 := cell_up hb z3 b3_1; replace b3_2 := cell_up hb z3 b3_2; replace b3_3 := cell_up hb z3 b3_3; replace z3 := lt_step0 z3 hb; replace o_a0 := o_a0.step0 hb; replace o_W := o_W.step0 hb; replace o_x0 := o_x0.step0 hb; replace o_G := o_G.step0 hb; clear hb; have ub_c0 := o_c0.lt) | (go_at_call 10; (with_reducible refine (eqMem_ct _ _ _ _ o_x0.rd' o_c0.rd' (by omega)).mono ?_); rintro e wq ⟨rfl, hb⟩; replace hB := below_step0 hB hb hB.size; have sz := hb.size; replace b0_0 := cell_up hb z0 b0_0; replace b0_1 := cell_up hb z0 b0_1; replace b0_2 := cell_up hb z0 b0_2; replace b0_3 := cell_up hb z0 b0_3; replace z0 := lt_step0 z0 hb; replace b1_0 := cell_up hb z1 b1_0; replace b1_1 := cell_up hb z1 b1_1; replace b1_2 := cell_up hb z1 b1_2; replace b1_3 := cell_up hb z1 b1_3; replace z1 := lt_step0 z1 hb; replace b2_0 := cell_up hb z2 b2_0; replace b2_1 := cell_up hb z2 b2_1; replace b2_2 := cell_up hb z2 b2_2; replace b2_3 := cell_up hb z2 b2_3; replace z2 := lt_step0 z2 hb; replace b3_0 := cell_up hb z3 b3_0; replace b3_1 := cell_up hb z3 b3_1; replace b3_2 := cell_up hb z3 b3_2; replace b3_3 := cell_up hb z3 b3_3; replace z3 := lt_step0 z3 hb; replace o_a0 := o_a0.step0 hb; replace o_W := o_W.step0 hb; replace o_x0 := o_x0.step0 hb; replace o_G := o_G.step0 hb; replace o_c0 := o_c0.step0 hb; clear hb))
    all_goals
      go_wp2_with fail
      go_meet
      exact ⟨rfl, hB, b0_0, b0_1, b0_2, b0_3, z0, b1_0, b1_1, b1_2, b1_3, z1, b2_0, b2_1, b2_2, b2_3, z2, b3_0, b3_1, b3_2, b3_3, z3, o_W, o_x0, o_G⟩
  case rest =>
    clear hB
    clear b0_0
    clear b0_1
    clear b0_2
    clear b0_3
    clear z0
    clear b1_0
    clear b1_1
    clear b1_2
    clear b1_3
    clear z1
    clear b2_0
    clear b2_1
    clear b2_2
    clear b2_3
    clear z2
    clear b3_0
    clear b3_1
    clear b3_2
    clear b3_3
    clear z3
    clear o_W
    clear o_x0
    clear o_G
    obtain ⟨rfl, hB, b0_0, b0_1, b0_2, b0_3, z0, b1_0, b1_1, b1_2, b1_3, z1, b2_0, b2_1, b2_2, b2_3, z2, b3_0, b3_1, b3_2, b3_3, z3, o_W, o_x0, o_G⟩ := hcut
    go_wp2_with fail
    refine (markMem_ct _ _ _ _ o_x0 (by decide) (by omega)).mono ?_
    rintro e w10 ⟨rfl, om, hx⟩
    have hx := hx
    replace hB := hB.trans (hx.below hB.size (fun g hm => by have q := lb_x0 g hm; have := hB0.size; omega))
    have sz := hx.size
    replace b0_0 := (hx.cell w.heap.size 0 z0 (fun hm => by have p := ub_x0 _ hm; have q := lb_x0 _ hm; omega)).trans b0_0
    replace b0_1 := (hx.cell w.heap.size 1 z0 (fun hm => by have p := ub_x0 _ hm; have q := lb_x0 _ hm; omega)).trans b0_1
    replace b0_2 := (hx.cell w.heap.size 2 z0 (fun hm => by have p := ub_x0 _ hm; have q := lb_x0 _ hm; omega)).trans b0_2
    replace b0_3 := (hx.cell w.heap.size 3 z0 (fun hm => by have p := ub_x0 _ hm; have q := lb_x0 _ hm; omega)).trans b0_3
    replace z0 := Nat.lt_of_lt_of_le z0 hx.size
    replace b1_0 := (hx.cell w3.heap.size 0 z1 (fun hm => by have p := ub_x0 _ hm; have q := lb_x0 _ hm; omega)).trans b1_0
    replace b1_1 := (hx.cell w3.heap.size 1 z1 (fun hm => by have p := ub_x0 _ hm; have q := lb_x0 _ hm; omega)).trans b1_1
    replace b1_2 := (hx.cell w3.heap.size 2 z1 (fun hm => by have p := ub_x0 _ hm; have q := lb_x0 _ hm; omega)).trans b1_2
    replace b1_3 := (hx.cell w3.heap.size 3 z1 (fun hm => by have p := ub_x0 _ hm; have q := lb_x0 _ hm; omega)).trans b1_3
    replace z1 := Nat.lt_of_lt_of_le z1 hx.size
    replace b2_0 := (hx.cell w4.heap.size 0 z2 (fun hm => by have p := ub_x0 _ hm; have q := lb_x0 _ hm; omega)).trans b2_0
    replace b2_1 := (hx.cell w4.heap.size 1 z2 (fun hm => by have p := ub_x0 _ hm; have q := lb_x0 _ hm; omega)).trans b2_1
    replace b2_2 := (hx.cell w4.heap.size 2 z2 (fun hm => by have p := ub_x0 _ hm; have q := lb_x0 _ hm; omega)).trans b2_2
    replace b2_3 := (hx.cell w4.heap.size 3 z2 (fun hm => by have p := ub_x0 _ hm; have q := lb_x0 _ hm; omega)).trans b2_3
    replace z2 := Nat.lt_of_lt_of_le z2 hx.size
    replace b3_0 := (hx.cell w5.heap.size 0 z3 (fun hm => by have p := ub_x0 _ hm; have q := lb_x0 _ hm; omega)).trans b3_0
    replace b3_1 := (hx.cell w5.heap.size 1 z3 (fun hm => by have p := ub_x0 _ hm; have q := lb_x0 _ hm; omega)).trans b3_1
    replace b3_2 := (hx.cell w5.heap.size 2 z3 (fun hm => by have p := ub_x0 _ hm; have q := lb_x0 _ hm; omega)).trans b3_2
    replace b3_3 := (hx.cell w5.heap.size 3 z3 (fun hm => by have p := ub_x0 _ hm; have q := lb_x0 _ hm; omega)).trans b3_3
    replace z3 := Nat.lt_of_lt_of_le z3 hx.size
    replace o_W := o_W.chg hx (fun g hg hm => by have p := ub_W g hg; have q := lb_x0 g hm; omega)
    replace o_G := o_G.chg hx (fun g hg hm => by have p := ub_x0 g hm; have q := lb_G g hg; omega)
    replace o_x0 := om
    clear om hx
    go_wp2_with fail
    refine (eqMem_ct _ _ _ _ o_G.rd' o_W.rd' (by omega)).mono ?_
    rintro e w11 ⟨rfl, hb⟩
    replace hB := below_step0 hB hb hB.size
    have sz := hb.size
    replace b0_0 := cell_up hb z0 b0_0
    replace b0_1 := cell_up hb z0 b0_1
    replace b0_2 := cell_up hb z0 b0_2
    replace b0_3 := cell_up hb z0 b0_3
    replace z0 := lt_step0 z0 hb
    replace b1_0 := cell_up hb z1 b1_0
    replace b1_1 := cell_up hb z1 b1_1
    replace b1_2 := cell_up hb z1 b1_2
    replace b1_3 := cell_up hb z1 b1_3
    replace z1 := lt_step0 z1 hb
    replace b2_0 := cell_up hb z2 b2_0
    replace b2_1 := cell_up hb z2 b2_1
    replace b2_2 := cell_up hb z2 b2_2
    replace b2_3 := cell_up hb z2 b2_3
    replace z2 := lt_step0 z2 hb
    replace b3_0 := cell_up hb z3 b3_0
    replace b3_1 := cell_up hb z3 b3_1
    replace b3_2 := cell_up hb z3 b3_2
    replace b3_3 := cell_up hb z3 b3_3
    replace z3 := lt_step0 z3 hb
    replace o_W := o_W.step0 hb
    replace o_x0 := o_x0.step0 hb
    replace o_G := o_G.step0 hb
    clear hb
    go_wp2_with fail
    refine (markMem_ct _ _ _ _ o_G (by decide) (by omega)).mono ?_
    rintro e w12 ⟨rfl, om, hx⟩
    have hx := hx
    replace hB := hB.trans (hx.below hB.size (fun g hm => by have q := lb_G g hm; have := hB0.size; omega))
    have sz := hx.size
    replace b0_0 := (hx.cell w.heap.size 0 z0 (fun hm => by have p := ub_G _ hm; have q := lb_G _ hm; omega)).trans b0_0
    replace b0_1 := (hx.cell w.heap.size 1 z0 (fun hm => by have p := ub_G _ hm; have q := lb_G _ hm; omega)).trans b0_1
    replace b0_2 := (hx.cell w.heap.size 2 z0 (fun hm => by have p := ub_G _ hm; have q := lb_G _ hm; omega)).trans b0_2
    replace b0_3 := (hx.cell w.heap.size 3 z0 (fun hm => by have p := ub_G _ hm; have q := lb_G _ hm; omega)).trans b0_3
    replace z0 := Nat.lt_of_lt_of_le z0 hx.size
    replace b1_0 := (hx.cell w3.heap.size 0 z1 (fun hm => by have p := ub_G _ hm; have q := lb_G _ hm; omega)).trans b1_0
    replace b1_1 := (hx.cell w3.heap.size 1 z1 (fun hm => by have p := ub_G _ hm; have q := lb_G _ hm; omega)).trans b1_1
    replace b1_2 := (hx.cell w3.heap.size 2 z1 (fun hm => by have p := ub_G _ hm; have q := lb_G _ hm; omega)).trans b1_2
    replace b1_3 := (hx.cell w3.heap.size 3 z1 (fun hm => by have p := ub_G _ hm; have q := lb_G _ hm; omega)).trans b1_3
    replace z1 := Nat.lt_of_lt_of_le z1 hx.size
    replace b2_0 := (hx.cell w4.heap.size 0 z2 (fun hm => by have p := ub_G _ hm; have q := lb_G _ hm; omega)).trans b2_0
    replace b2_1 := (hx.cell w4.heap.size 1 z2 (fun hm => by have p := ub_G _ hm; have q := lb_G _ hm; omega)).trans b2_1
    replace b2_2 := (hx.cell w4.heap.size 2 z2 (fun hm => by have p := ub_G _ hm; have q := lb_G _ hm; omega)).trans b2_2
    replace b2_3 := (hx.cell w4.heap.size 3 z2 (fun hm => by have p := ub_G _ hm; have q := lb_G _ hm; omega)).trans b2_3
    replace z2 := Nat.lt_of_lt_of_le z2 hx.size
    replace b3_0 := (hx.cell w5.heap.size 0 z3 (fun hm => by have p := ub_G _ hm; have q := lb_G _ hm; omega)).trans b3_0
    replace b3_1 := (hx.cell w5.heap.size 1 z3 (fun hm => by have p := ub_G _ hm; have q := lb_G _ hm; omega)).trans b3_1
    replace b3_2 := (hx.cell w5.heap.size 2 z3 (fun hm => by have p := ub_G _ hm; have q := lb_G _ hm; omega)).trans b3_2
    replace b3_3 := (hx.cell w5.heap.size 3 z3 (fun hm => by have p := ub_G _ hm; have q := lb_G _ hm; omega)).trans b3_3
    replace z3 := Nat.lt_of_lt_of_le z3 hx.size
    replace o_W := o_W.chg hx (fun g hg hm => by have p := ub_W g hg; have q := lb_G g hm; omega)
    replace o_x0 := o_x0.chg hx (fun g hg hm => by have p := ub_x0 g hg; have q := lb_G g hm; omega)
    replace o_G := om
    clear om hx
    go_wp2_with fail
    refine (heldMem_ct _ _ _ _ o_G.rd' (by decide) (by omega)).mono ?_
    rintro e w13 ⟨rfl, hb⟩
    replace hB := below_step0 hB hb hB.size
    have sz := hb.size
    replace b0_0 := cell_up hb z0 b0_0
    replace b0_1 := cell_up hb z0 b0_1
    replace b0_2 := cell_up hb z0 b0_2
    replace b0_3 := cell_up hb z0 b0_3
    replace z0 := lt_step0 z0 hb
    replace b1_0 := cell_up hb z1 b1_0
    replace b1_1 := cell_up hb z1 b1_1
    replace b1_2 := cell_up hb z1 b1_2
    replace b1_3 := cell_up hb z1 b1_3
    replace z1 := lt_step0 z1 hb
    replace b2_0 := cell_up hb z2 b2_0
    replace b2_1 := cell_up hb z2 b2_1
    replace b2_2 := cell_up hb z2 b2_2
    replace b2_3 := cell_up hb z2 b2_3
    replace z2 := lt_step0 z2 hb
    replace b3_0 := cell_up hb z3 b3_0
    replace b3_1 := cell_up hb z3 b3_1
    replace b3_2 := cell_up hb z3 b3_2
    replace b3_3 := cell_up hb z3 b3_3
    replace z3 := lt_step0 z3 hb
    replace o_W := o_W.step0 hb
    replace o_x0 := o_x0.step0 hb
    replace o_G := o_G.step0 hb
    clear hb
    go_wp2_with fail
    refine (toMem_ct _ K0 x0 (rdMem_up h0 hB) (by omega)).mono ?_
    rintro e w14 ⟨K_y0, rfl, o_y0, lb_y0, hb⟩
    replace hB := below_step0 hB hb hB.size
    have sz := hb.size
    replace b0_0 := cell_up hb z0 b0_0
    replace b0_1 := cell_up hb z0 b0_1
    replace b0_2 := cell_up hb z0 b0_2
    replace b0_3 := cell_up hb z0 b0_3
    replace z0 := lt_step0 z0 hb
    replace b1_0 := cell_up hb z1 b1_0
    replace b1_1 := cell_up hb z1 b1_1
    replace b1_2 := cell_up hb z1 b1_2
    replace b1_3 := cell_up hb z1 b1_3
    replace z1 := lt_step0 z1 hb
    replace b2_0 := cell_up hb z2 b2_0
    replace b2_1 := cell_up hb z2 b2_1
    replace b2_2 := cell_up hb z2 b2_2
    replace b2_3 := cell_up hb z2 b2_3
    replace z2 := lt_step0 z2 hb
    replace b3_0 := cell_up hb z3 b3_0
    replace b3_1 := cell_up hb z3 b3_1
    replace b3_2 := cell_up hb z3 b3_2
    replace b3_3 := cell_up hb z3 b3_3
    replace z3 := lt_step0 z3 hb
    replace o_W := o_W.step0 hb
    replace o_x0 := o_x0.step0 hb
    replace o_G := o_G.step0 hb
    clear hb
    have ub_y0 := o_y0.lt
    go_wp2_with fail
    refine (FreeNow_implS _ _ x0 wk a  o_y0.rd' (by omega)).mono ?_
    rintro e w15 ⟨K_H, rfl, o_H, lb_H, hb⟩
    replace hB := below_step0 hB hb hB.size
    have sz := hb.size
    replace b0_0 := cell_up hb z0 b0_0
    replace b0_1 := cell_up hb z0 b0_1
    replace b0_2 := cell_up hb z0 b0_2
    replace b0_3 := cell_up hb z0 b0_3
    replace z0 := lt_step0 z0 hb
    replace b1_0 := cell_up hb z1 b1_0
    replace b1_1 := cell_up hb z1 b1_1
    replace b1_2 := cell_up hb z1 b1_2
    replace b1_3 := cell_up hb z1 b1_3
    replace z1 := lt_step0 z1 hb
    replace b2_0 := cell_up hb z2 b2_0
    replace b2_1 := cell_up hb z2 b2_1
    replace b2_2 := cell_up hb z2 b2_2
    replace b2_3 := cell_up hb z2 b2_3
    replace z2 := lt_step0 z2 hb
    replace b3_0 := cell_up hb z3 b3_0
    replace b3_1 := cell_up hb z3 b3_1
    replace b3_2 := cell_up hb z3 b3_2
    replace b3_3 := cell_up hb z3 b3_3
    replace z3 := lt_step0 z3 hb
    replace o_W := o_W.step0 hb
    replace o_x0 := o_x0.step0 hb
    replace o_G := o_G.step0 hb
    replace o_y0 := o_y0.step0 hb
    clear hb
    have ub_H := o_H.lt
    go_wp2_with fail
    refine (eqMem_ct _ _ _ _ (o_H.alloc_ _).rd' (o_W.alloc_ _).rd' (by omega)).mono ?_
    rintro e w16 ⟨rfl, hb⟩
    replace hB := below_step hB hb hB.size
    have sz := hb.size
    simp only [World.size_alloc] at sz
    replace b0_0 := up2 hb z0 b0_0
    replace b0_1 := up2 hb z0 b0_1
    replace b0_2 := up2 hb z0 b0_2
    replace b0_3 := up2 hb z0 b0_3
    replace z0 := lt_step z0 hb
    replace b1_0 := up2 hb z1 b1_0
    replace b1_1 := up2 hb z1 b1_1
    replace b1_2 := up2 hb z1 b1_2
    replace b1_3 := up2 hb z1 b1_3
    replace z1 := lt_step z1 hb
    replace b2_0 := up2 hb z2 b2_0
    replace b2_1 := up2 hb z2 b2_1
    replace b2_2 := up2 hb z2 b2_2
    replace b2_3 := up2 hb z2 b2_3
    replace z2 := lt_step z2 hb
    replace b3_0 := up2 hb z3 b3_0
    replace b3_1 := up2 hb z3 b3_1
    replace b3_2 := up2 hb z3 b3_2
    replace b3_3 := up2 hb z3 b3_3
    replace z3 := lt_step z3 hb
    have b4_0 := new_cell hb (j := 0) rfl
    have b4_1 := new_cell hb (j := 1) rfl
    have b4_2 := new_cell hb (j := 2) rfl
    have b4_3 := new_cell hb (j := 3) rfl
    have z4 := new_lt hb
    have zz4 := z4
    replace o_W := o_W.step hb
    replace o_x0 := o_x0.step hb
    replace o_G := o_G.step hb
    replace o_y0 := o_y0.step hb
    replace o_H := o_H.step hb
    clear hb
    go_wp2_with fail
    refine (heldMem_ct _ _ _ _ o_G.rd' (by decide) (by omega)).mono ?_
    rintro e w17 ⟨rfl, hb⟩
    replace hB := below_step0 hB hb hB.size
    have sz := hb.size
    replace b0_0 := cell_up hb z0 b0_0
    replace b0_1 := cell_up hb z0 b0_1
    replace b0_2 := cell_up hb z0 b0_2
    replace b0_3 := cell_up hb z0 b0_3
    replace z0 := lt_step0 z0 hb
    replace b1_0 := cell_up hb z1 b1_0
    replace b1_1 := cell_up hb z1 b1_1
    replace b1_2 := cell_up hb z1 b1_2
    replace b1_3 := cell_up hb z1 b1_3
    replace z1 := lt_step0 z1 hb
    replace b2_0 := cell_up hb z2 b2_0
    replace b2_1 := cell_up hb z2 b2_1
    replace b2_2 := cell_up hb z2 b2_2
    replace b2_3 := cell_up hb z2 b2_3
    replace z2 := lt_step0 z2 hb
    replace b3_0 := cell_up hb z3 b3_0
    replace b3_1 := cell_up hb z3 b3_1
    replace b3_2 := cell_up hb z3 b3_2
    replace b3_3 := cell_up hb z3 b3_3
    replace z3 := lt_step0 z3 hb
    replace b4_0 := cell_up hb z4 b4_0
    replace b4_1 := cell_up hb z4 b4_1
    replace b4_2 := cell_up hb z4 b4_2
    replace b4_3 := cell_up hb z4 b4_3
    replace z4 := lt_step0 z4 hb
    replace o_W := o_W.step0 hb
    replace o_x0 := o_x0.step0 hb
    replace o_G := o_G.step0 hb
    replace o_y0 := o_y0.step0 hb
    replace o_H := o_H.step0 hb
    clear hb
    go_wp2_with fail
    go_ret
    exact ⟨rfl, hB⟩
end Go.Proofs.YtcligoicoeklfaaGreat
