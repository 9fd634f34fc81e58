/-
  Several texts in one: lemmas and contracts that the claim rests on.
-/
import Derived.Test.YtdepckmjgpkjmaaUHShelfNew1
import Derived.Deep.QuietTactic
import Derived.BigQuiet
import Derived.Deep.LoopGhost
import Derived.Deep.RegionHeld3
import Derived.WalkSpells
import Derived.Laws.Cover3
import Derived.Test.YtdepckmjgpkjmaaUHShelfNew9
import Derived.Test.YtdepckmjgpkjmaaUHShelfNew10
/-
  FnExactShelfNew, walked.
-/
namespace Go.Proofs.Ytdepckmjgpkjmaa
open Go.RowKit

set_option maxRecDepth 100000 in
theorem size_newBase : sizeBase newBase ≤ 900 := by
  simp [sizeBase, sizeMem, sizeHeap, sizeLists, sizeClock, szLL, newBase, newMem, newHeap, newLists, newClk]
theorem size_shelfNewP (ll : List (List Op)) : sizeShelf (shelfNewP ll) ≤ szLL ll + 1000 := by
  unfold shelfNewP
  split
  · have h1 := size_newBase
    have e : sizeShelf (newShelf ll) = sizeBase newBase + (List.replicate 2 (0 : Int)).length + (List.replicate 3 zeroJob).length + szLL ll + 0 := rfl
    rw [e, List.length_replicate, List.length_replicate]
    omega
  · have e : sizeShelf noShelf = 0 := rfl
    omega

set_option maxRecDepth 100000 in
set_option maxHeartbeats 4000000 in
theorem FnExactShelfNew_law (w : World) (K0 : SV) (t0 : List SV) (x0 : List (List Op)) (h0 : RdLL FOp w w.heap.size K0.val t0 x0) :
    Calls Try.prog 8 #[.slice K0.a K0.len K0.cap] w fun e w' => e = .returned (.bool true) ∧ Below w.heap.size w w' := by
  by_cases hs0' : szLL x0 ≤ 1048576
  case neg =>
    have HL := Hid.mk_ (leftOf_neg hs0')
    go_enter Try.func8, Try.ntmps8
    have hB : Below w.heap.size w w := Below.refl _ _
    have hB0 := hB
    go_wp2_with fail
    refine (szQueueS_w _ K0 t0 x0 1048576 (rdLL_up h0 hB) (by omega)).mono ?_
    rw [HL.out]
    rintro e w1 ⟨rfl, hb⟩
    replace hB := below_step0 hB hb hB.size
    have sz := hb.size
    clear hb
    go_wp2_with fail
    go_ret
    exact ⟨rfl, hB⟩
  have HL0 := Hid.mk_ (leftOf_pos hs0')
  have hz0 : totLL x0 ≤ szLL x0 := Nat.le_add_left _ _
  have hz1 := size_shelfNewP x0
  have hn1 := nMark_size_Shelf (shelfNewP x0)
  go_enter Try.func8, Try.ntmps8
  have hB : Below w.heap.size w w := Below.refl _ _
  have hB0 := hB
  go_wp2_with fail
  refine (szQueueS_w _ K0 t0 x0 1048576 (rdLL_up h0 hB) (by omega)).mono ?_
  rw [HL0.out]
  rintro e w1 ⟨rfl, hb⟩
  replace hB := below_step0 hB hb hB.size
  have sz := hb.size
  clear hb
  go_wp2_with fail
  refine (toQueueS_w _ K0 t0 x0 (rdLL_up h0 hB) (by omega)).mono ?_
  rintro e w2 ⟨K_a0, t_a0, rfl, o_a0, lb_a0, hb⟩
  replace hB := below_step0 hB hb hB.size
  have sz := hb.size
  clear hb
  have ub_a0 := o_a0.lt
  go_wp2_with fail
  refine (ShelfNew_spec _ _ _ x0 o_a0.rd' (by omega)).mono ?_
  rintro e w3 ⟨K_W, rfl, o_W, lb_W, hb⟩
  replace hB := below_step0 hB hb hB.size
  have sz := hb.size
  replace o_a0 := o_a0.step0 hb
  clear hb
  have ub_W := o_W.lt
  go_wp2_with fail
  refine (toQueueS_w _ K0 t0 x0 (rdLL_up h0 (hB.alloc hB.size _)) (by omega)).mono ?_
  rintro e w4 ⟨K_x0, t_x0, rfl, o_x0, lb_x0, hb⟩
  simp only [World.size_alloc] at lb_x0
  replace hB := below_step hB hb hB.size
  have sz := hb.size
  simp only [World.size_alloc] at sz
  have b0_0 := new_cell hb (j := 0) rfl
  have b0_1 := new_cell hb (j := 1) rfl
  have b0_2 := new_cell hb (j := 2) rfl
  have b0_3 := new_cell hb (j := 3) rfl
  have b0_4 := new_cell hb (j := 4) rfl
  have b0_5 := new_cell hb (j := 5) rfl
  have b0_6 := new_cell hb (j := 6) rfl
  have b0_7 := new_cell hb (j := 7) rfl
  have b0_8 := new_cell hb (j := 8) rfl
  have b0_9 := new_cell hb (j := 9) rfl
  have b0_10 := new_cell hb (j := 10) rfl
  have b0_11 := new_cell hb (j := 11) rfl
  have b0_12 := new_cell hb (j := 12) rfl
  have z0 := new_lt hb
  have zz0 := z0
  replace o_a0 := o_a0.step hb
  replace o_W := o_W.step hb
  clear hb
  have ub_x0 := o_x0.lt
  go_wp2_with fail
  refine (ShelfNew_impl _ _ _ x0 o_x0.rd' (by omega)).mono ?_
  rintro e w5 ⟨K_G, rfl, o_G, lb_G, hb⟩
  replace hB := below_step0 hB hb hB.size
  have sz := hb.size
  replace b0_0 := cell_up hb z0 b0_0
  replace b0_1 := cell_up hb z0 b0_1
  replace b0_2 := cell_up hb z0 b0_2
  replace b0_3 := cell_up hb z0 b0_3
  replace b0_4 := cell_up hb z0 b0_4
  replace b0_5 := cell_up hb z0 b0_5
  replace b0_6 := cell_up hb z0 b0_6
  replace b0_7 := cell_up hb z0 b0_7
  replace b0_8 := cell_up hb z0 b0_8
  replace b0_9 := cell_up hb z0 b0_9
  replace b0_10 := cell_up hb z0 b0_10
  replace b0_11 := cell_up hb z0 b0_11
  replace b0_12 := cell_up hb z0 b0_12
  replace z0 := lt_step0 z0 hb
  replace o_a0 := o_a0.step0 hb
  replace o_W := o_W.step0 hb
  replace o_x0 := o_x0.step0 hb
  clear hb
  have ub_G := o_G.lt
  go_wp2_with fail
  refine (eqShelf_ct _ _ _ _ (o_G.alloc_ _).rd' (o_W.alloc_ _).rd' (by omega)).mono ?_
  rintro e w6 ⟨rfl, hb⟩
  replace hB := below_step hB hb hB.size
  have sz := hb.size
  simp only [World.size_alloc] at sz
  replace b0_0 := up2 hb z0 b0_0
  replace b0_1 := up2 hb z0 b0_1
  replace b0_2 := up2 hb z0 b0_2
  replace b0_3 := up2 hb z0 b0_3
  replace b0_4 := up2 hb z0 b0_4
  replace b0_5 := up2 hb z0 b0_5
  replace b0_6 := up2 hb z0 b0_6
  replace b0_7 := up2 hb z0 b0_7
  replace b0_8 := up2 hb z0 b0_8
  replace b0_9 := up2 hb z0 b0_9
  replace b0_10 := up2 hb z0 b0_10
  replace b0_11 := up2 hb z0 b0_11
  replace b0_12 := up2 hb z0 b0_12
  replace z0 := lt_step z0 hb
  have b1_0 := new_cell hb (j := 0) rfl
  have b1_1 := new_cell hb (j := 1) rfl
  have b1_2 := new_cell hb (j := 2) rfl
  have b1_3 := new_cell hb (j := 3) rfl
  have b1_4 := new_cell hb (j := 4) rfl
  have b1_5 := new_cell hb (j := 5) rfl
  have b1_6 := new_cell hb (j := 6) rfl
  have b1_7 := new_cell hb (j := 7) rfl
  have b1_8 := new_cell hb (j := 8) rfl
  have b1_9 := new_cell hb (j := 9) rfl
  have b1_10 := new_cell hb (j := 10) rfl
  have b1_11 := new_cell hb (j := 11) rfl
  have b1_12 := new_cell hb (j := 12) rfl
  have z1 := new_lt hb
  have zz1 := z1
  replace o_a0 := o_a0.step hb
  replace o_W := o_W.step hb
  replace o_x0 := o_x0.step hb
  replace o_G := o_G.step hb
  clear hb
  go_wp2_with fail
  refine (toQueueS_w _ K0 t0 x0 (rdLL_up h0 hB) (by omega)).mono ?_
  rintro e w7 ⟨K_c0, t_c0, rfl, o_c0, lb_c0, hb⟩
  replace hB := below_step0 hB hb hB.size
  have sz := hb.size
  replace b0_0 := cell_up hb z0 b0_0
  replace b0_1 := cell_up hb z0 b0_1
  replace b0_2 := cell_up hb z0 b0_2
  replace b0_3 := cell_up hb z0 b0_3
  replace b0_4 := cell_up hb z0 b0_4
  replace b0_5 := cell_up hb z0 b0_5
  replace b0_6 := cell_up hb z0 b0_6
  replace b0_7 := cell_up hb z0 b0_7
  replace b0_8 := cell_up hb z0 b0_8
  replace b0_9 := cell_up hb z0 b0_9
  replace b0_10 := cell_up hb z0 b0_10
  replace b0_11 := cell_up hb z0 b0_11
  replace b0_12 := cell_up hb z0 b0_12
  replace z0 := lt_step0 z0 hb
  replace b1_0 := cell_up hb z1 b1_0
  replace b1_1 := cell_up hb z1 b1_1
  replace b1_2 := cell_up hb z1 b1_2
  replace b1_3 := cell_up hb z1 b1_3
  replace b1_4 := cell_up hb z1 b1_4
  replace b1_5 := cell_up hb z1 b1_5
  replace b1_6 := cell_up hb z1 b1_6
  replace b1_7 := cell_up hb z1 b1_7
  replace b1_8 := cell_up hb z1 b1_8
  replace b1_9 := cell_up hb z1 b1_9
  replace b1_10 := cell_up hb z1 b1_10
  replace b1_11 := cell_up hb z1 b1_11
  replace b1_12 := cell_up hb z1 b1_12
  replace z1 := lt_step0 z1 hb
  replace o_a0 := o_a0.step0 hb
  replace o_W := o_W.step0 hb
  replace o_x0 := o_x0.step0 hb
  replace o_G := o_G.step0 hb
  clear hb
  have ub_c0 := o_c0.lt
  go_wp2_with fail
  refine (eqQueueS_w _ _ _ _ _ x0 o_x0.rd' o_c0.rd' (by omega)).mono ?_
  rintro e w8 ⟨rfl, hb⟩
  replace hB := below_step0 hB hb hB.size
  have sz := hb.size
  replace b0_0 := cell_up hb z0 b0_0
  replace b0_1 := cell_up hb z0 b0_1
  replace b0_2 := cell_up hb z0 b0_2
  replace b0_3 := cell_up hb z0 b0_3
  replace b0_4 := cell_up hb z0 b0_4
  replace b0_5 := cell_up hb z0 b0_5
  replace b0_6 := cell_up hb z0 b0_6
  replace b0_7 := cell_up hb z0 b0_7
  replace b0_8 := cell_up hb z0 b0_8
  replace b0_9 := cell_up hb z0 b0_9
  replace b0_10 := cell_up hb z0 b0_10
  replace b0_11 := cell_up hb z0 b0_11
  replace b0_12 := cell_up hb z0 b0_12
  replace z0 := lt_step0 z0 hb
  replace b1_0 := cell_up hb z1 b1_0
  replace b1_1 := cell_up hb z1 b1_1
  replace b1_2 := cell_up hb z1 b1_2
  replace b1_3 := cell_up hb z1 b1_3
  replace b1_4 := cell_up hb z1 b1_4
  replace b1_5 := cell_up hb z1 b1_5
  replace b1_6 := cell_up hb z1 b1_6
  replace b1_7 := cell_up hb z1 b1_7
  replace b1_8 := cell_up hb z1 b1_8
  replace b1_9 := cell_up hb z1 b1_9
  replace b1_10 := cell_up hb z1 b1_10
  replace b1_11 := cell_up hb z1 b1_11
  replace b1_12 := cell_up hb z1 b1_12
  replace z1 := lt_step0 z1 hb
  replace o_a0 := o_a0.step0 hb
  replace o_W := o_W.step0 hb
  replace o_x0 := o_x0.step0 hb
  replace o_G := o_G.step0 hb
  replace o_c0 := o_c0.step0 hb
  clear hb
  go_wp2_with fail
  refine (markQueueS_w _ _ _ _ _ o_x0 (by decide) (by omega)).mono ?_
  rintro e w9 ⟨rfl, om, hx⟩
  have hx := hx
  replace hB := hB.trans (hx.below hB.size (fun g hm => by have q := lb_x0 g hm; have := hB0.size; omega))
  have sz := hx.size
  replace b0_0 := (hx.cell w3.heap.size 0 z0 (fun hm => by have p := ub_x0 _ hm; have q := lb_x0 _ hm; omega)).trans b0_0
  replace b0_1 := (hx.cell w3.heap.size 1 z0 (fun hm => by have p := ub_x0 _ hm; have q := lb_x0 _ hm; omega)).trans b0_1
  replace b0_2 := (hx.cell w3.heap.size 2 z0 (fun hm => by have p := ub_x0 _ hm; have q := lb_x0 _ hm; omega)).trans b0_2
  replace b0_3 := (hx.cell w3.heap.size 3 z0 (fun hm => by have p := ub_x0 _ hm; have q := lb_x0 _ hm; omega)).trans b0_3
  replace b0_4 := (hx.cell w3.heap.size 4 z0 (fun hm => by have p := ub_x0 _ hm; have q := lb_x0 _ hm; omega)).trans b0_4
  replace b0_5 := (hx.cell w3.heap.size 5 z0 (fun hm => by have p := ub_x0 _ hm; have q := lb_x0 _ hm; omega)).trans b0_5
  replace b0_6 := (hx.cell w3.heap.size 6 z0 (fun hm => by have p := ub_x0 _ hm; have q := lb_x0 _ hm; omega)).trans b0_6
  replace b0_7 := (hx.cell w3.heap.size 7 z0 (fun hm => by have p := ub_x0 _ hm; have q := lb_x0 _ hm; omega)).trans b0_7
  replace b0_8 := (hx.cell w3.heap.size 8 z0 (fun hm => by have p := ub_x0 _ hm; have q := lb_x0 _ hm; omega)).trans b0_8
  replace b0_9 := (hx.cell w3.heap.size 9 z0 (fun hm => by have p := ub_x0 _ hm; have q := lb_x0 _ hm; omega)).trans b0_9
  replace b0_10 := (hx.cell w3.heap.size 10 z0 (fun hm => by have p := ub_x0 _ hm; have q := lb_x0 _ hm; omega)).trans b0_10
  replace b0_11 := (hx.cell w3.heap.size 11 z0 (fun hm => by have p := ub_x0 _ hm; have q := lb_x0 _ hm; omega)).trans b0_11
  replace b0_12 := (hx.cell w3.heap.size 12 z0 (fun hm => by have p := ub_x0 _ hm; have q := lb_x0 _ hm; omega)).trans b0_12
  replace z0 := Nat.lt_of_lt_of_le z0 hx.size
  replace b1_0 := (hx.cell w5.heap.size 0 z1 (fun hm => by have p := ub_x0 _ hm; have q := lb_x0 _ hm; omega)).trans b1_0
  replace b1_1 := (hx.cell w5.heap.size 1 z1 (fun hm => by have p := ub_x0 _ hm; have q := lb_x0 _ hm; omega)).trans b1_1
  replace b1_2 := (hx.cell w5.heap.size 2 z1 (fun hm => by have p := ub_x0 _ hm; have q := lb_x0 _ hm; omega)).trans b1_2
  replace b1_3 := (hx.cell w5.heap.size 3 z1 (fun hm => by have p := ub_x0 _ hm; have q := lb_x0 _ hm; omega)).trans b1_3
  replace b1_4 := (hx.cell w5.heap.size 4 z1 (fun hm => by have p := ub_x0 _ hm; have q := lb_x0 _ hm; omega)).trans b1_4
  replace b1_5 := (hx.cell w5.heap.size 5 z1 (fun hm => by have p := ub_x0 _ hm; have q := lb_x0 _ hm; omega)).trans b1_5
  replace b1_6 := (hx.cell w5.heap.size 6 z1 (fun hm => by have p := ub_x0 _ hm; have q := lb_x0 _ hm; omega)).trans b1_6
  replace b1_7 := (hx.cell w5.heap.size 7 z1 (fun hm => by have p := ub_x0 _ hm; have q := lb_x0 _ hm; omega)).trans b1_7
  replace b1_8 := (hx.cell w5.heap.size 8 z1 (fun hm => by have p := ub_x0 _ hm; have q := lb_x0 _ hm; omega)).trans b1_8
  replace b1_9 := (hx.cell w5.heap.size 9 z1 (fun hm => by have p := ub_x0 _ hm; have q := lb_x0 _ hm; omega)).trans b1_9
  replace b1_10 := (hx.cell w5.heap.size 10 z1 (fun hm => by have p := ub_x0 _ hm; have q := lb_x0 _ hm; omega)).trans b1_10
  replace b1_11 := (hx.cell w5.heap.size 11 z1 (fun hm => by have p := ub_x0 _ hm; have q := lb_x0 _ hm; omega)).trans b1_11
  replace b1_12 := (hx.cell w5.heap.size 12 z1 (fun hm => by have p := ub_x0 _ hm; have q := lb_x0 _ hm; omega)).trans b1_12
  replace z1 := Nat.lt_of_lt_of_le z1 hx.size
  replace o_a0 := o_a0.chg hx (fun g hg hm => by have p := ub_a0 g hg; have q := lb_x0 g hm; omega)
  replace o_W := o_W.chg hx (fun g hg hm => by have p := ub_W g hg; have q := lb_x0 g hm; omega)
  replace o_G := o_G.chg hx (fun g hg hm => by have p := ub_x0 g hm; have q := lb_G g hg; omega)
  replace o_c0 := o_c0.chg hx (fun g hg hm => by have p := ub_x0 g hm; have q := lb_c0 g hg; omega)
  replace o_x0 := om
  clear om hx
  go_wp2_with fail
  refine (eqShelf_ct _ _ _ _ o_G.rd' o_W.rd' (by omega)).mono ?_
  rintro e w10 ⟨rfl, hb⟩
  replace hB := below_step0 hB hb hB.size
  have sz := hb.size
  replace b0_0 := cell_up hb z0 b0_0
  replace b0_1 := cell_up hb z0 b0_1
  replace b0_2 := cell_up hb z0 b0_2
  replace b0_3 := cell_up hb z0 b0_3
  replace b0_4 := cell_up hb z0 b0_4
  replace b0_5 := cell_up hb z0 b0_5
  replace b0_6 := cell_up hb z0 b0_6
  replace b0_7 := cell_up hb z0 b0_7
  replace b0_8 := cell_up hb z0 b0_8
  replace b0_9 := cell_up hb z0 b0_9
  replace b0_10 := cell_up hb z0 b0_10
  replace b0_11 := cell_up hb z0 b0_11
  replace b0_12 := cell_up hb z0 b0_12
  replace z0 := lt_step0 z0 hb
  replace b1_0 := cell_up hb z1 b1_0
  replace b1_1 := cell_up hb z1 b1_1
  replace b1_2 := cell_up hb z1 b1_2
  replace b1_3 := cell_up hb z1 b1_3
  replace b1_4 := cell_up hb z1 b1_4
  replace b1_5 := cell_up hb z1 b1_5
  replace b1_6 := cell_up hb z1 b1_6
  replace b1_7 := cell_up hb z1 b1_7
  replace b1_8 := cell_up hb z1 b1_8
  replace b1_9 := cell_up hb z1 b1_9
  replace b1_10 := cell_up hb z1 b1_10
  replace b1_11 := cell_up hb z1 b1_11
  replace b1_12 := cell_up hb z1 b1_12
  replace z1 := lt_step0 z1 hb
  replace o_a0 := o_a0.step0 hb
  replace o_W := o_W.step0 hb
  replace o_x0 := o_x0.step0 hb
  replace o_G := o_G.step0 hb
  replace o_c0 := o_c0.step0 hb
  clear hb
  go_wp2_with fail
  refine (markShelf_ct _ _ _ _ o_G (by decide) (by omega)).mono ?_
  rintro e w11 ⟨rfl, om, hx⟩
  have hx := hx
  replace hB := hB.trans (hx.below hB.size (fun g hm => by have q := lb_G g hm; have := hB0.size; omega))
  have sz := hx.size
  replace b0_0 := (hx.cell w3.heap.size 0 z0 (fun hm => by have p := ub_G _ hm; have q := lb_G _ hm; omega)).trans b0_0
  replace b0_1 := (hx.cell w3.heap.size 1 z0 (fun hm => by have p := ub_G _ hm; have q := lb_G _ hm; omega)).trans b0_1
  replace b0_2 := (hx.cell w3.heap.size 2 z0 (fun hm => by have p := ub_G _ hm; have q := lb_G _ hm; omega)).trans b0_2
  replace b0_3 := (hx.cell w3.heap.size 3 z0 (fun hm => by have p := ub_G _ hm; have q := lb_G _ hm; omega)).trans b0_3
  replace b0_4 := (hx.cell w3.heap.size 4 z0 (fun hm => by have p := ub_G _ hm; have q := lb_G _ hm; omega)).trans b0_4
  replace b0_5 := (hx.cell w3.heap.size 5 z0 (fun hm => by have p := ub_G _ hm; have q := lb_G _ hm; omega)).trans b0_5
  replace b0_6 := (hx.cell w3.heap.size 6 z0 (fun hm => by have p := ub_G _ hm; have q := lb_G _ hm; omega)).trans b0_6
  replace b0_7 := (hx.cell w3.heap.size 7 z0 (fun hm => by have p := ub_G _ hm; have q := lb_G _ hm; omega)).trans b0_7
  replace b0_8 := (hx.cell w3.heap.size 8 z0 (fun hm => by have p := ub_G _ hm; have q := lb_G _ hm; omega)).trans b0_8
  replace b0_9 := (hx.cell w3.heap.size 9 z0 (fun hm => by have p := ub_G _ hm; have q := lb_G _ hm; omega)).trans b0_9
  replace b0_10 := (hx.cell w3.heap.size 10 z0 (fun hm => by have p := ub_G _ hm; have q := lb_G _ hm; omega)).trans b0_10
  replace b0_11 := (hx.cell w3.heap.size 11 z0 (fun hm => by have p := ub_G _ hm; have q := lb_G _ hm; omega)).trans b0_11
  replace b0_12 := (hx.cell w3.heap.size 12 z0 (fun hm => by have p := ub_G _ hm; have q := lb_G _ hm; omega)).trans b0_12
  replace z0 := Nat.lt_of_lt_of_le z0 hx.size
  replace b1_0 := (hx.cell w5.heap.size 0 z1 (fun hm => by have p := ub_G _ hm; have q := lb_G _ hm; omega)).trans b1_0
  replace b1_1 := (hx.cell w5.heap.size 1 z1 (fun hm => by have p := ub_G _ hm; have q := lb_G _ hm; omega)).trans b1_1
  replace b1_2 := (hx.cell w5.heap.size 2 z1 (fun hm => by have p := ub_G _ hm; have q := lb_G _ hm; omega)).trans b1_2
  replace b1_3 := (hx.cell w5.heap.size 3 z1 (fun hm => by have p := ub_G _ hm; have q := lb_G _ hm; omega)).trans b1_3
  replace b1_4 := (hx.cell w5.heap.size 4 z1 (fun hm => by have p := ub_G _ hm; have q := lb_G _ hm; omega)).trans b1_4
  replace b1_5 := (hx.cell w5.heap.size 5 z1 (fun hm => by have p := ub_G _ hm; have q := lb_G _ hm; omega)).trans b1_5
  replace b1_6 := (hx.cell w5.heap.size 6 z1 (fun hm => by have p := ub_G _ hm; have q := lb_G _ hm; omega)).trans b1_6
  replace b1_7 := (hx.cell w5.heap.size 7 z1 (fun hm => by have p := ub_G _ hm; have q := lb_G _ hm; omega)).trans b1_7
  replace b1_8 := (hx.cell w5.heap.size 8 z1 (fun hm => by have p := ub_G _ hm; have q := lb_G _ hm; omega)).trans b1_8
  replace b1_9 := (hx.cell w5.heap.size 9 z1 (fun hm => by have p := ub_G _ hm; have q := lb_G _ hm; omega)).trans b1_9
  replace b1_10 := (hx.cell w5.heap.size 10 z1 (fun hm => by have p := ub_G _ hm; have q := lb_G _ hm; omega)).trans b1_10
  replace b1_11 := (hx.cell w5.heap.size 11 z1 (fun hm => by have p := ub_G _ hm; have q := lb_G _ hm; omega)).trans b1_11
  replace b1_12 := (hx.cell w5.heap.size 12 z1 (fun hm => by have p := ub_G _ hm; have q := lb_G _ hm; omega)).trans b1_12
  replace z1 := Nat.lt_of_lt_of_le z1 hx.size
  replace o_a0 := o_a0.chg hx (fun g hg hm => by have p := ub_a0 g hg; have q := lb_G g hm; omega)
  replace o_W := o_W.chg hx (fun g hg hm => by have p := ub_W g hg; have q := lb_G g hm; omega)
  replace o_x0 := o_x0.chg hx (fun g hg hm => by have p := ub_x0 g hg; have q := lb_G g hm; omega)
  replace o_c0 := o_c0.chg hx (fun g hg hm => by have p := ub_G g hm; have q := lb_c0 g hg; omega)
  replace o_G := om
  clear om hx
  go_wp2_with fail
  refine (heldShelf_ct _ _ _ _ o_G.rd' (by decide) (by omega)).mono ?_
  rintro e w12 ⟨rfl, hb⟩
  replace hB := below_step0 hB hb hB.size
  have sz := hb.size
  replace b0_0 := cell_up hb z0 b0_0
  replace b0_1 := cell_up hb z0 b0_1
  replace b0_2 := cell_up hb z0 b0_2
  replace b0_3 := cell_up hb z0 b0_3
  replace b0_4 := cell_up hb z0 b0_4
  replace b0_5 := cell_up hb z0 b0_5
  replace b0_6 := cell_up hb z0 b0_6
  replace b0_7 := cell_up hb z0 b0_7
  replace b0_8 := cell_up hb z0 b0_8
  replace b0_9 := cell_up hb z0 b0_9
  replace b0_10 := cell_up hb z0 b0_10
  replace b0_11 := cell_up hb z0 b0_11
  replace b0_12 := cell_up hb z0 b0_12
  replace z0 := lt_step0 z0 hb
  replace b1_0 := cell_up hb z1 b1_0
  replace b1_1 := cell_up hb z1 b1_1
  replace b1_2 := cell_up hb z1 b1_2
  replace b1_3 := cell_up hb z1 b1_3
  replace b1_4 := cell_up hb z1 b1_4
  replace b1_5 := cell_up hb z1 b1_5
  replace b1_6 := cell_up hb z1 b1_6
  replace b1_7 := cell_up hb z1 b1_7
  replace b1_8 := cell_up hb z1 b1_8
  replace b1_9 := cell_up hb z1 b1_9
  replace b1_10 := cell_up hb z1 b1_10
  replace b1_11 := cell_up hb z1 b1_11
  replace b1_12 := cell_up hb z1 b1_12
  replace z1 := lt_step0 z1 hb
  replace o_a0 := o_a0.step0 hb
  replace o_W := o_W.step0 hb
  replace o_x0 := o_x0.step0 hb
  replace o_G := o_G.step0 hb
  replace o_c0 := o_c0.step0 hb
  clear hb
  go_wp2_with fail
  refine (toQueueS_w _ K0 t0 x0 (rdLL_up h0 hB) (by omega)).mono ?_
  rintro e w13 ⟨K_y0, t_y0, rfl, o_y0, lb_y0, hb⟩
  replace hB := below_step0 hB hb hB.size
  have sz := hb.size
  replace b0_0 := cell_up hb z0 b0_0
  replace b0_1 := cell_up hb z0 b0_1
  replace b0_2 := cell_up hb z0 b0_2
  replace b0_3 := cell_up hb z0 b0_3
  replace b0_4 := cell_up hb z0 b0_4
  replace b0_5 := cell_up hb z0 b0_5
  replace b0_6 := cell_up hb z0 b0_6
  replace b0_7 := cell_up hb z0 b0_7
  replace b0_8 := cell_up hb z0 b0_8
  replace b0_9 := cell_up hb z0 b0_9
  replace b0_10 := cell_up hb z0 b0_10
  replace b0_11 := cell_up hb z0 b0_11
  replace b0_12 := cell_up hb z0 b0_12
  replace z0 := lt_step0 z0 hb
  replace b1_0 := cell_up hb z1 b1_0
  replace b1_1 := cell_up hb z1 b1_1
  replace b1_2 := cell_up hb z1 b1_2
  replace b1_3 := cell_up hb z1 b1_3
  replace b1_4 := cell_up hb z1 b1_4
  replace b1_5 := cell_up hb z1 b1_5
  replace b1_6 := cell_up hb z1 b1_6
  replace b1_7 := cell_up hb z1 b1_7
  replace b1_8 := cell_up hb z1 b1_8
  replace b1_9 := cell_up hb z1 b1_9
  replace b1_10 := cell_up hb z1 b1_10
  replace b1_11 := cell_up hb z1 b1_11
  replace b1_12 := cell_up hb z1 b1_12
  replace z1 := lt_step0 z1 hb
  replace o_a0 := o_a0.step0 hb
  replace o_W := o_W.step0 hb
  replace o_x0 := o_x0.step0 hb
  replace o_G := o_G.step0 hb
  replace o_c0 := o_c0.step0 hb
  clear hb
  have ub_y0 := o_y0.lt
  go_wp2_with fail
  refine (ShelfNew_impl _ _ _ x0 o_y0.rd' (by omega)).mono ?_
  rintro e w14 ⟨K_H, rfl, o_H, lb_H, hb⟩
  replace hB := below_step0 hB hb hB.size
  have sz := hb.size
  replace b0_0 := cell_up hb z0 b0_0
  replace b0_1 := cell_up hb z0 b0_1
  replace b0_2 := cell_up hb z0 b0_2
  replace b0_3 := cell_up hb z0 b0_3
  replace b0_4 := cell_up hb z0 b0_4
  replace b0_5 := cell_up hb z0 b0_5
  replace b0_6 := cell_up hb z0 b0_6
  replace b0_7 := cell_up hb z0 b0_7
  replace b0_8 := cell_up hb z0 b0_8
  replace b0_9 := cell_up hb z0 b0_9
  replace b0_10 := cell_up hb z0 b0_10
  replace b0_11 := cell_up hb z0 b0_11
  replace b0_12 := cell_up hb z0 b0_12
  replace z0 := lt_step0 z0 hb
  replace b1_0 := cell_up hb z1 b1_0
  replace b1_1 := cell_up hb z1 b1_1
  replace b1_2 := cell_up hb z1 b1_2
  replace b1_3 := cell_up hb z1 b1_3
  replace b1_4 := cell_up hb z1 b1_4
  replace b1_5 := cell_up hb z1 b1_5
  replace b1_6 := cell_up hb z1 b1_6
  replace b1_7 := cell_up hb z1 b1_7
  replace b1_8 := cell_up hb z1 b1_8
  replace b1_9 := cell_up hb z1 b1_9
  replace b1_10 := cell_up hb z1 b1_10
  replace b1_11 := cell_up hb z1 b1_11
  replace b1_12 := cell_up hb z1 b1_12
  replace z1 := lt_step0 z1 hb
  replace o_a0 := o_a0.step0 hb
  replace o_W := o_W.step0 hb
  replace o_x0 := o_x0.step0 hb
  replace o_G := o_G.step0 hb
  replace o_c0 := o_c0.step0 hb
  replace o_y0 := o_y0.step0 hb
  clear hb
  have ub_H := o_H.lt
  go_wp2_with fail
  refine (eqShelf_ct _ _ _ _ (o_H.alloc_ _).rd' (o_W.alloc_ _).rd' (by omega)).mono ?_
  rintro e w15 ⟨rfl, hb⟩
  replace hB := below_step hB hb hB.size
  have sz := hb.size
  simp only [World.size_alloc] at sz
  replace b0_0 := up2 hb z0 b0_0
  replace b0_1 := up2 hb z0 b0_1
  replace b0_2 := up2 hb z0 b0_2
  replace b0_3 := up2 hb z0 b0_3
  replace b0_4 := up2 hb z0 b0_4
  replace b0_5 := up2 hb z0 b0_5
  replace b0_6 := up2 hb z0 b0_6
  replace b0_7 := up2 hb z0 b0_7
  replace b0_8 := up2 hb z0 b0_8
  replace b0_9 := up2 hb z0 b0_9
  replace b0_10 := up2 hb z0 b0_10
  replace b0_11 := up2 hb z0 b0_11
  replace b0_12 := up2 hb z0 b0_12
  replace z0 := lt_step z0 hb
  replace b1_0 := up2 hb z1 b1_0
  replace b1_1 := up2 hb z1 b1_1
  replace b1_2 := up2 hb z1 b1_2
  replace b1_3 := up2 hb z1 b1_3
  replace b1_4 := up2 hb z1 b1_4
  replace b1_5 := up2 hb z1 b1_5
  replace b1_6 := up2 hb z1 b1_6
  replace b1_7 := up2 hb z1 b1_7
  replace b1_8 := up2 hb z1 b1_8
  replace b1_9 := up2 hb z1 b1_9
  replace b1_10 := up2 hb z1 b1_10
  replace b1_11 := up2 hb z1 b1_11
  replace b1_12 := up2 hb z1 b1_12
  replace z1 := lt_step z1 hb
  have b2_0 := new_cell hb (j := 0) rfl
  have b2_1 := new_cell hb (j := 1) rfl
  have b2_2 := new_cell hb (j := 2) rfl
  have b2_3 := new_cell hb (j := 3) rfl
  have b2_4 := new_cell hb (j := 4) rfl
  have b2_5 := new_cell hb (j := 5) rfl
  have b2_6 := new_cell hb (j := 6) rfl
  have b2_7 := new_cell hb (j := 7) rfl
  have b2_8 := new_cell hb (j := 8) rfl
  have b2_9 := new_cell hb (j := 9) rfl
  have b2_10 := new_cell hb (j := 10) rfl
  have b2_11 := new_cell hb (j := 11) rfl
  have b2_12 := new_cell hb (j := 12) rfl
  have z2 := new_lt hb
  have zz2 := z2
  replace o_a0 := o_a0.step hb
  replace o_W := o_W.step hb
  replace o_x0 := o_x0.step hb
  replace o_G := o_G.step hb
  replace o_c0 := o_c0.step hb
  replace o_y0 := o_y0.step hb
  replace o_H := o_H.step hb
  clear hb
  go_wp2_with fail
  refine (heldShelf_ct _ _ _ _ o_G.rd' (by decide) (by omega)).mono ?_
  rintro e w16 ⟨rfl, hb⟩
  replace hB := below_step0 hB hb hB.size
  have sz := hb.size
  replace b0_0 := cell_up hb z0 b0_0
  replace b0_1 := cell_up hb z0 b0_1
  replace b0_2 := cell_up hb z0 b0_2
  replace b0_3 := cell_up hb z0 b0_3
  replace b0_4 := cell_up hb z0 b0_4
  replace b0_5 := cell_up hb z0 b0_5
  replace b0_6 := cell_up hb z0 b0_6
  replace b0_7 := cell_up hb z0 b0_7
  replace b0_8 := cell_up hb z0 b0_8
  replace b0_9 := cell_up hb z0 b0_9
  replace b0_10 := cell_up hb z0 b0_10
  replace b0_11 := cell_up hb z0 b0_11
  replace b0_12 := cell_up hb z0 b0_12
  replace z0 := lt_step0 z0 hb
  replace b1_0 := cell_up hb z1 b1_0
  replace b1_1 := cell_up hb z1 b1_1
  replace b1_2 := cell_up hb z1 b1_2
  replace b1_3 := cell_up hb z1 b1_3
  replace b1_4 := cell_up hb z1 b1_4
  replace b1_5 := cell_up hb z1 b1_5
  replace b1_6 := cell_up hb z1 b1_6
  replace b1_7 := cell_up hb z1 b1_7
  replace b1_8 := cell_up hb z1 b1_8
  replace b1_9 := cell_up hb z1 b1_9
  replace b1_10 := cell_up hb z1 b1_10
  replace b1_11 := cell_up hb z1 b1_11
  replace b1_12 := cell_up hb z1 b1_12
  replace z1 := lt_step0 z1 hb
  replace b2_0 := cell_up hb z2 b2_0
  replace b2_1 := cell_up hb z2 b2_1
  replace b2_2 := cell_up hb z2 b2_2
  replace b2_3 := cell_up hb z2 b2_3
  replace b2_4 := cell_up hb z2 b2_4
  replace b2_5 := cell_up hb z2 b2_5
  replace b2_6 := cell_up hb z2 b2_6
  replace b2_7 := cell_up hb z2 b2_7
  replace b2_8 := cell_up hb z2 b2_8
  replace b2_9 := cell_up hb z2 b2_9
  replace b2_10 := cell_up hb z2 b2_10
  replace b2_11 := cell_up hb z2 b2_11
  replace b2_12 := cell_up hb z2 b2_12
  replace z2 := lt_step0 z2 hb
  replace o_a0 := o_a0.step0 hb
  replace o_W := o_W.step0 hb
  replace o_x0 := o_x0.step0 hb
  replace o_G := o_G.step0 hb
  replace o_c0 := o_c0.step0 hb
  replace o_y0 := o_y0.step0 hb
  replace o_H := o_H.step0 hb
  clear hb
  go_wp2_with fail
  go_ret
  exact ⟨rfl, hB⟩
end Go.Proofs.Ytdepckmjgpkjmaa

