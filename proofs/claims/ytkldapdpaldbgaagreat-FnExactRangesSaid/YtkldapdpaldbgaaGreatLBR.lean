/-
  FnExactRanges, walked.
-/
import Derived.Test.YtkldapdpaldbgaaGreatT
import Derived.Test.YtkldapdpaldbgaaGreatL
import Derived.Deep.QuietTactic
import Derived.BigQuiet
import Derived.Deep.LoopGhost
import Derived.Deep.RegionHeld3
import Derived.Test.YtkldapdpaldbgaaGreatN
import Derived.Test.YtkldapdpaldbgaaGreatA
import Derived.WalkSpells
import Derived.Laws.Cover3
import Derived.Test.YtkldapdpaldbgaaGreatMB
import Derived.Test.YtkldapdpaldbgaaGreatBR
import Derived.Test.YtkldapdpaldbgaaGreatES
import Derived.Deep.CutRange
namespace Go.Proofs.YtkldapdpaldbgaaGreat
open Go.RowKit

theorem Ranges_implS (w : World) (H : HBase) (x : Base) (h : RdBase w w.heap.size H x) (hs : sizeBase x ≤ 1048576) :
    Calls Tryz.prog 13 #[.agg #[.slice H.Mem.Heap.Bytes.a H.Mem.Heap.Bytes.len H.Mem.Heap.Bytes.cap, .slice H.Mem.Heap.Class.a H.Mem.Heap.Class.len H.Mem.Heap.Class.cap, .slice H.Mem.Lists.Global.a H.Mem.Lists.Global.len H.Mem.Lists.Global.cap, .slice H.Mem.Lists.Own.a H.Mem.Lists.Own.len H.Mem.Lists.Own.cap, .int .i64 x.Clock.Epoch, .slice H.Clock.Pins.a H.Clock.Pins.len H.Clock.Pins.cap, .slice H.Limbo.a H.Limbo.len H.Limbo.cap, .slice H.Haz.a H.Haz.len H.Haz.cap]] w fun e w' => ∃ v', e = .returned v' ∧ OwL FSpan 88 w' v' (rangesP x) ∧ (∀ g ∈ foot1 v', w.heap.size ≤ g) ∧ Below w.heap.size w w' := Ranges_impl w H x  h (by have := size_base_lls hs; omega)

theorem Ranges_specS (w : World) (H : HBase) (x : Base) (h : RdBase w w.heap.size H x) (hs : sizeBase x ≤ 1048576) :
    Calls Tryz.prog 38 #[.agg #[.slice H.Mem.Heap.Bytes.a H.Mem.Heap.Bytes.len H.Mem.Heap.Bytes.cap, .slice H.Mem.Heap.Class.a H.Mem.Heap.Class.len H.Mem.Heap.Class.cap, .slice H.Mem.Lists.Global.a H.Mem.Lists.Global.len H.Mem.Lists.Global.cap, .slice H.Mem.Lists.Own.a H.Mem.Lists.Own.len H.Mem.Lists.Own.cap, .int .i64 x.Clock.Epoch, .slice H.Clock.Pins.a H.Clock.Pins.len H.Clock.Pins.cap, .slice H.Limbo.a H.Limbo.len H.Limbo.cap, .slice H.Haz.a H.Haz.len H.Haz.cap]] w fun e w' => ∃ v', e = .returned v' ∧ OwL FSpan 88 w' v' (rangesP x) ∧ (∀ g ∈ foot1 v', w.heap.size ≤ g) ∧ Below w.heap.size w w' := Ranges_spec w H x  h (by have := size_base_lls hs; omega) (by have := size_base_lls hs; omega) (by have := size_base_lls hs; omega)

set_option maxRecDepth 100000 in
set_option maxHeartbeats 4000000 in
theorem FnExactRanges_law (w : World) (K0 : HBase) (x0 : Base) (h0 : RdBase w w.heap.size K0 x0) :
    Calls Tryz.prog 9 #[.agg #[.slice K0.Mem.Heap.Bytes.a K0.Mem.Heap.Bytes.len K0.Mem.Heap.Bytes.cap, .slice K0.Mem.Heap.Class.a K0.Mem.Heap.Class.len K0.Mem.Heap.Class.cap, .slice K0.Mem.Lists.Global.a K0.Mem.Lists.Global.len K0.Mem.Lists.Global.cap, .slice K0.Mem.Lists.Own.a K0.Mem.Lists.Own.len K0.Mem.Lists.Own.cap, .int .i64 x0.Clock.Epoch, .slice K0.Clock.Pins.a K0.Clock.Pins.len K0.Clock.Pins.cap, .slice K0.Limbo.a K0.Limbo.len K0.Limbo.cap, .slice K0.Haz.a K0.Haz.len K0.Haz.cap]] w fun e w' => e = .returned (.bool true) ∧ Below w.heap.size w w' := by
  by_cases hs0' : sizeBase x0 ≤ 1048576
  case neg =>
    have HL := Hid.mk_ (leftOf_neg hs0')
    go_enter Tryz.func9, Tryz.ntmps9
    go_wp2_with fail
    have hB : Below w.heap.size w (w.alloc (.cells #[.slice K0.Mem.Heap.Bytes.a K0.Mem.Heap.Bytes.len K0.Mem.Heap.Bytes.cap, .slice K0.Mem.Heap.Class.a K0.Mem.Heap.Class.len K0.Mem.Heap.Class.cap, .slice K0.Mem.Lists.Global.a K0.Mem.Lists.Global.len K0.Mem.Lists.Global.cap, .slice K0.Mem.Lists.Own.a K0.Mem.Lists.Own.len K0.Mem.Lists.Own.cap, .int .i64 x0.Clock.Epoch, .slice K0.Clock.Pins.a K0.Clock.Pins.len K0.Clock.Pins.cap, .slice K0.Limbo.a K0.Limbo.len K0.Limbo.cap, .slice K0.Haz.a K0.Haz.len K0.Haz.cap] 57)) := by repeat (first | exact Below.refl _ _ | refine Below.alloc ?_ (by simp <;> omega) _ | refine below_grow_of ?_ (by simp <;> omega) _ _ | refine Below.drew ?_ | refine below_drewN ?_ _)
    have hB0 := hB
    have b0_0 : ((w.alloc (.cells #[.slice K0.Mem.Heap.Bytes.a K0.Mem.Heap.Bytes.len K0.Mem.Heap.Bytes.cap, .slice K0.Mem.Heap.Class.a K0.Mem.Heap.Class.len K0.Mem.Heap.Class.cap, .slice K0.Mem.Lists.Global.a K0.Mem.Lists.Global.len K0.Mem.Lists.Global.cap, .slice K0.Mem.Lists.Own.a K0.Mem.Lists.Own.len K0.Mem.Lists.Own.cap, .int .i64 x0.Clock.Epoch, .slice K0.Clock.Pins.a K0.Clock.Pins.len K0.Clock.Pins.cap, .slice K0.Limbo.a K0.Limbo.len K0.Limbo.cap, .slice K0.Haz.a K0.Haz.len K0.Haz.cap] 57))).cell? ⟨w.heap.size, 0, none⟩ = some (.slice K0.Mem.Heap.Bytes.a K0.Mem.Heap.Bytes.len K0.Mem.Heap.Bytes.cap) := by simp [go_sem]
    have b0_1 : ((w.alloc (.cells #[.slice K0.Mem.Heap.Bytes.a K0.Mem.Heap.Bytes.len K0.Mem.Heap.Bytes.cap, .slice K0.Mem.Heap.Class.a K0.Mem.Heap.Class.len K0.Mem.Heap.Class.cap, .slice K0.Mem.Lists.Global.a K0.Mem.Lists.Global.len K0.Mem.Lists.Global.cap, .slice K0.Mem.Lists.Own.a K0.Mem.Lists.Own.len K0.Mem.Lists.Own.cap, .int .i64 x0.Clock.Epoch, .slice K0.Clock.Pins.a K0.Clock.Pins.len K0.Clock.Pins.cap, .slice K0.Limbo.a K0.Limbo.len K0.Limbo.cap, .slice K0.Haz.a K0.Haz.len K0.Haz.cap] 57))).cell? ⟨w.heap.size, 1, none⟩ = some (.slice K0.Mem.Heap.Class.a K0.Mem.Heap.Class.len K0.Mem.Heap.Class.cap) := by simp [go_sem]
    have b0_2 : ((w.alloc (.cells #[.slice K0.Mem.Heap.Bytes.a K0.Mem.Heap.Bytes.len K0.Mem.Heap.Bytes.cap, .slice K0.Mem.Heap.Class.a K0.Mem.Heap.Class.len K0.Mem.Heap.Class.cap, .slice K0.Mem.Lists.Global.a K0.Mem.Lists.Global.len K0.Mem.Lists.Global.cap, .slice K0.Mem.Lists.Own.a K0.Mem.Lists.Own.len K0.Mem.Lists.Own.cap, .int .i64 x0.Clock.Epoch, .slice K0.Clock.Pins.a K0.Clock.Pins.len K0.Clock.Pins.cap, .slice K0.Limbo.a K0.Limbo.len K0.Limbo.cap, .slice K0.Haz.a K0.Haz.len K0.Haz.cap] 57))).cell? ⟨w.heap.size, 2, none⟩ = some (.slice K0.Mem.Lists.Global.a K0.Mem.Lists.Global.len K0.Mem.Lists.Global.cap) := by simp [go_sem]
    have b0_3 : ((w.alloc (.cells #[.slice K0.Mem.Heap.Bytes.a K0.Mem.Heap.Bytes.len K0.Mem.Heap.Bytes.cap, .slice K0.Mem.Heap.Class.a K0.Mem.Heap.Class.len K0.Mem.Heap.Class.cap, .slice K0.Mem.Lists.Global.a K0.Mem.Lists.Global.len K0.Mem.Lists.Global.cap, .slice K0.Mem.Lists.Own.a K0.Mem.Lists.Own.len K0.Mem.Lists.Own.cap, .int .i64 x0.Clock.Epoch, .slice K0.Clock.Pins.a K0.Clock.Pins.len K0.Clock.Pins.cap, .slice K0.Limbo.a K0.Limbo.len K0.Limbo.cap, .slice K0.Haz.a K0.Haz.len K0.Haz.cap] 57))).cell? ⟨w.heap.size, 3, none⟩ = some (.slice K0.Mem.Lists.Own.a K0.Mem.Lists.Own.len K0.Mem.Lists.Own.cap) := by simp [go_sem]
    have b0_4 : ((w.alloc (.cells #[.slice K0.Mem.Heap.Bytes.a K0.Mem.Heap.Bytes.len K0.Mem.Heap.Bytes.cap, .slice K0.Mem.Heap.Class.a K0.Mem.Heap.Class.len K0.Mem.Heap.Class.cap, .slice K0.Mem.Lists.Global.a K0.Mem.Lists.Global.len K0.Mem.Lists.Global.cap, .slice K0.Mem.Lists.Own.a K0.Mem.Lists.Own.len K0.Mem.Lists.Own.cap, .int .i64 x0.Clock.Epoch, .slice K0.Clock.Pins.a K0.Clock.Pins.len K0.Clock.Pins.cap, .slice K0.Limbo.a K0.Limbo.len K0.Limbo.cap, .slice K0.Haz.a K0.Haz.len K0.Haz.cap] 57))).cell? ⟨w.heap.size, 4, none⟩ = some (.int .i64 x0.Clock.Epoch) := by simp [go_sem]
    have b0_5 : ((w.alloc (.cells #[.slice K0.Mem.Heap.Bytes.a K0.Mem.Heap.Bytes.len K0.Mem.Heap.Bytes.cap, .slice K0.Mem.Heap.Class.a K0.Mem.Heap.Class.len K0.Mem.Heap.Class.cap, .slice K0.Mem.Lists.Global.a K0.Mem.Lists.Global.len K0.Mem.Lists.Global.cap, .slice K0.Mem.Lists.Own.a K0.Mem.Lists.Own.len K0.Mem.Lists.Own.cap, .int .i64 x0.Clock.Epoch, .slice K0.Clock.Pins.a K0.Clock.Pins.len K0.Clock.Pins.cap, .slice K0.Limbo.a K0.Limbo.len K0.Limbo.cap, .slice K0.Haz.a K0.Haz.len K0.Haz.cap] 57))).cell? ⟨w.heap.size, 5, none⟩ = some (.slice K0.Clock.Pins.a K0.Clock.Pins.len K0.Clock.Pins.cap) := by simp [go_sem]
    have b0_6 : ((w.alloc (.cells #[.slice K0.Mem.Heap.Bytes.a K0.Mem.Heap.Bytes.len K0.Mem.Heap.Bytes.cap, .slice K0.Mem.Heap.Class.a K0.Mem.Heap.Class.len K0.Mem.Heap.Class.cap, .slice K0.Mem.Lists.Global.a K0.Mem.Lists.Global.len K0.Mem.Lists.Global.cap, .slice K0.Mem.Lists.Own.a K0.Mem.Lists.Own.len K0.Mem.Lists.Own.cap, .int .i64 x0.Clock.Epoch, .slice K0.Clock.Pins.a K0.Clock.Pins.len K0.Clock.Pins.cap, .slice K0.Limbo.a K0.Limbo.len K0.Limbo.cap, .slice K0.Haz.a K0.Haz.len K0.Haz.cap] 57))).cell? ⟨w.heap.size, 6, none⟩ = some (.slice K0.Limbo.a K0.Limbo.len K0.Limbo.cap) := by simp [go_sem]
    have b0_7 : ((w.alloc (.cells #[.slice K0.Mem.Heap.Bytes.a K0.Mem.Heap.Bytes.len K0.Mem.Heap.Bytes.cap, .slice K0.Mem.Heap.Class.a K0.Mem.Heap.Class.len K0.Mem.Heap.Class.cap, .slice K0.Mem.Lists.Global.a K0.Mem.Lists.Global.len K0.Mem.Lists.Global.cap, .slice K0.Mem.Lists.Own.a K0.Mem.Lists.Own.len K0.Mem.Lists.Own.cap, .int .i64 x0.Clock.Epoch, .slice K0.Clock.Pins.a K0.Clock.Pins.len K0.Clock.Pins.cap, .slice K0.Limbo.a K0.Limbo.len K0.Limbo.cap, .slice K0.Haz.a K0.Haz.len K0.Haz.cap] 57))).cell? ⟨w.heap.size, 7, none⟩ = some (.slice K0.Haz.a K0.Haz.len K0.Haz.cap) := by simp [go_sem]
    have z0 : w.heap.size < ((w.alloc (.cells #[.slice K0.Mem.Heap.Bytes.a K0.Mem.Heap.Bytes.len K0.Mem.Heap.Bytes.cap, .slice K0.Mem.Heap.Class.a K0.Mem.Heap.Class.len K0.Mem.Heap.Class.cap, .slice K0.Mem.Lists.Global.a K0.Mem.Lists.Global.len K0.Mem.Lists.Global.cap, .slice K0.Mem.Lists.Own.a K0.Mem.Lists.Own.len K0.Mem.Lists.Own.cap, .int .i64 x0.Clock.Epoch, .slice K0.Clock.Pins.a K0.Clock.Pins.len K0.Clock.Pins.cap, .slice K0.Limbo.a K0.Limbo.len K0.Limbo.cap, .slice K0.Haz.a K0.Haz.len K0.Haz.cap] 57))).heap.size := by simp <;> omega
    generalize hW : (w.alloc (.cells #[.slice K0.Mem.Heap.Bytes.a K0.Mem.Heap.Bytes.len K0.Mem.Heap.Bytes.cap, .slice K0.Mem.Heap.Class.a K0.Mem.Heap.Class.len K0.Mem.Heap.Class.cap, .slice K0.Mem.Lists.Global.a K0.Mem.Lists.Global.len K0.Mem.Lists.Global.cap, .slice K0.Mem.Lists.Own.a K0.Mem.Lists.Own.len K0.Mem.Lists.Own.cap, .int .i64 x0.Clock.Epoch, .slice K0.Clock.Pins.a K0.Clock.Pins.len K0.Clock.Pins.cap, .slice K0.Limbo.a K0.Limbo.len K0.Limbo.cap, .slice K0.Haz.a K0.Haz.len K0.Haz.cap] 57)) = w0 at hB hB0 b0_0 b0_1 b0_2 b0_3 b0_4 b0_5 b0_6 b0_7 z0 ⊢
    clear hW
    have zz0 := z0
    refine (szBase_ct _ K0 x0 1048576 (rdBase_up h0 hB) (by omega)).mono ?_
    rw [HL.out]
    rintro e w1 ⟨rfl, hb⟩
    replace hB := below_step0 hB hb hB.size
    have sz := hb.size
    replace b0_0 := cell_up hb z0 b0_0
    replace b0_1 := cell_up hb z0 b0_1
    replace b0_2 := cell_up hb z0 b0_2
    replace b0_3 := cell_up hb z0 b0_3
    replace b0_4 := cell_up hb z0 b0_4
    replace b0_5 := cell_up hb z0 b0_5
    replace b0_6 := cell_up hb z0 b0_6
    replace b0_7 := cell_up hb z0 b0_7
    replace z0 := lt_step0 z0 hb
    clear hb
    go_wp2_with fail
    go_ret
    exact ⟨rfl, hB⟩
  obtain ⟨r0, HL0, hr0⟩ : ∃ r : Nat, Hid (leftOf 1048576 (sizeBase x0) = (r : Int)) ∧ r + sizeBase x0 = 1048576 := ⟨1048576 - sizeBase x0, Hid.mk_ (by rw [leftOf_pos hs0']; omega), by omega⟩
  have hn0 := nMark_size_Base x0
  have hl1 := rngsP_len x0 24
  rw [show rngsP x0 24 = rangesP x0 from rfl] at hl1
  clear hs0'
  go_enter Tryz.func9, Tryz.ntmps9
  go_wp2_with fail
  have hB : Below w.heap.size w (w.alloc (.cells #[.slice K0.Mem.Heap.Bytes.a K0.Mem.Heap.Bytes.len K0.Mem.Heap.Bytes.cap, .slice K0.Mem.Heap.Class.a K0.Mem.Heap.Class.len K0.Mem.Heap.Class.cap, .slice K0.Mem.Lists.Global.a K0.Mem.Lists.Global.len K0.Mem.Lists.Global.cap, .slice K0.Mem.Lists.Own.a K0.Mem.Lists.Own.len K0.Mem.Lists.Own.cap, .int .i64 x0.Clock.Epoch, .slice K0.Clock.Pins.a K0.Clock.Pins.len K0.Clock.Pins.cap, .slice K0.Limbo.a K0.Limbo.len K0.Limbo.cap, .slice K0.Haz.a K0.Haz.len K0.Haz.cap] 57)) := by repeat (first | exact Below.refl _ _ | refine Below.alloc ?_ (by simp <;> omega) _ | refine below_grow_of ?_ (by simp <;> omega) _ _ | refine Below.drew ?_ | refine below_drewN ?_ _)
  have hB0 := hB
  have b0_0 : ((w.alloc (.cells #[.slice K0.Mem.Heap.Bytes.a K0.Mem.Heap.Bytes.len K0.Mem.Heap.Bytes.cap, .slice K0.Mem.Heap.Class.a K0.Mem.Heap.Class.len K0.Mem.Heap.Class.cap, .slice K0.Mem.Lists.Global.a K0.Mem.Lists.Global.len K0.Mem.Lists.Global.cap, .slice K0.Mem.Lists.Own.a K0.Mem.Lists.Own.len K0.Mem.Lists.Own.cap, .int .i64 x0.Clock.Epoch, .slice K0.Clock.Pins.a K0.Clock.Pins.len K0.Clock.Pins.cap, .slice K0.Limbo.a K0.Limbo.len K0.Limbo.cap, .slice K0.Haz.a K0.Haz.len K0.Haz.cap] 57))).cell? ⟨w.heap.size, 0, none⟩ = some (.slice K0.Mem.Heap.Bytes.a K0.Mem.Heap.Bytes.len K0.Mem.Heap.Bytes.cap) := by simp [go_sem]
  have b0_1 : ((w.alloc (.cells #[.slice K0.Mem.Heap.Bytes.a K0.Mem.Heap.Bytes.len K0.Mem.Heap.Bytes.cap, .slice K0.Mem.Heap.Class.a K0.Mem.Heap.Class.len K0.Mem.Heap.Class.cap, .slice K0.Mem.Lists.Global.a K0.Mem.Lists.Global.len K0.Mem.Lists.Global.cap, .slice K0.Mem.Lists.Own.a K0.Mem.Lists.Own.len K0.Mem.Lists.Own.cap, .int .i64 x0.Clock.Epoch, .slice K0.Clock.Pins.a K0.Clock.Pins.len K0.Clock.Pins.cap, .slice K0.Limbo.a K0.Limbo.len K0.Limbo.cap, .slice K0.Haz.a K0.Haz.len K0.Haz.cap] 57))).cell? ⟨w.heap.size, 1, none⟩ = some (.slice K0.Mem.Heap.Class.a K0.Mem.Heap.Class.len K0.Mem.Heap.Class.cap) := by simp [go_sem]
  have b0_2 : ((w.alloc (.cells #[.slice K0.Mem.Heap.Bytes.a K0.Mem.Heap.Bytes.len K0.Mem.Heap.Bytes.cap, .slice K0.Mem.Heap.Class.a K0.Mem.Heap.Class.len K0.Mem.Heap.Class.cap, .slice K0.Mem.Lists.Global.a K0.Mem.Lists.Global.len K0.Mem.Lists.Global.cap, .slice K0.Mem.Lists.Own.a K0.Mem.Lists.Own.len K0.Mem.Lists.Own.cap, .int .i64 x0.Clock.Epoch, .slice K0.Clock.Pins.a K0.Clock.Pins.len K0.Clock.Pins.cap, .slice K0.Limbo.a K0.Limbo.len K0.Limbo.cap, .slice K0.Haz.a K0.Haz.len K0.Haz.cap] 57))).cell? ⟨w.heap.size, 2, none⟩ = some (.slice K0.Mem.Lists.Global.a K0.Mem.Lists.Global.len K0.Mem.Lists.Global.cap) := by simp [go_sem]
  have b0_3 : ((w.alloc (.cells #[.slice K0.Mem.Heap.Bytes.a K0.Mem.Heap.Bytes.len K0.Mem.Heap.Bytes.cap, .slice K0.Mem.Heap.Class.a K0.Mem.Heap.Class.len K0.Mem.Heap.Class.cap, .slice K0.Mem.Lists.Global.a K0.Mem.Lists.Global.len K0.Mem.Lists.Global.cap, .slice K0.Mem.Lists.Own.a K0.Mem.Lists.Own.len K0.Mem.Lists.Own.cap, .int .i64 x0.Clock.Epoch, .slice K0.Clock.Pins.a K0.Clock.Pins.len K0.Clock.Pins.cap, .slice K0.Limbo.a K0.Limbo.len K0.Limbo.cap, .slice K0.Haz.a K0.Haz.len K0.Haz.cap] 57))).cell? ⟨w.heap.size, 3, none⟩ = some (.slice K0.Mem.Lists.Own.a K0.Mem.Lists.Own.len K0.Mem.Lists.Own.cap) := by simp [go_sem]
  have b0_4 : ((w.alloc (.cells #[.slice K0.Mem.Heap.Bytes.a K0.Mem.Heap.Bytes.len K0.Mem.Heap.Bytes.cap, .slice K0.Mem.Heap.Class.a K0.Mem.Heap.Class.len K0.Mem.Heap.Class.cap, .slice K0.Mem.Lists.Global.a K0.Mem.Lists.Global.len K0.Mem.Lists.Global.cap, .slice K0.Mem.Lists.Own.a K0.Mem.Lists.Own.len K0.Mem.Lists.Own.cap, .int .i64 x0.Clock.Epoch, .slice K0.Clock.Pins.a K0.Clock.Pins.len K0.Clock.Pins.cap, .slice K0.Limbo.a K0.Limbo.len K0.Limbo.cap, .slice K0.Haz.a K0.Haz.len K0.Haz.cap] 57))).cell? ⟨w.heap.size, 4, none⟩ = some (.int .i64 x0.Clock.Epoch) := by simp [go_sem]
  have b0_5 : ((w.alloc (.cells #[.slice K0.Mem.Heap.Bytes.a K0.Mem.Heap.Bytes.len K0.Mem.Heap.Bytes.cap, .slice K0.Mem.Heap.Class.a K0.Mem.Heap.Class.len K0.Mem.Heap.Class.cap, .slice K0.Mem.Lists.Global.a K0.Mem.Lists.Global.len K0.Mem.Lists.Global.cap, .slice K0.Mem.Lists.Own.a K0.Mem.Lists.Own.len K0.Mem.Lists.Own.cap, .int .i64 x0.Clock.Epoch, .slice K0.Clock.Pins.a K0.Clock.Pins.len K0.Clock.Pins.cap, .slice K0.Limbo.a K0.Limbo.len K0.Limbo.cap, .slice K0.Haz.a K0.Haz.len K0.Haz.cap] 57))).cell? ⟨w.heap.size, 5, none⟩ = some (.slice K0.Clock.Pins.a K0.Clock.Pins.len K0.Clock.Pins.cap) := by simp [go_sem]
  have b0_6 : ((w.alloc (.cells #[.slice K0.Mem.Heap.Bytes.a K0.Mem.Heap.Bytes.len K0.Mem.Heap.Bytes.cap, .slice K0.Mem.Heap.Class.a K0.Mem.Heap.Class.len K0.Mem.Heap.Class.cap, .slice K0.Mem.Lists.Global.a K0.Mem.Lists.Global.len K0.Mem.Lists.Global.cap, .slice K0.Mem.Lists.Own.a K0.Mem.Lists.Own.len K0.Mem.Lists.Own.cap, .int .i64 x0.Clock.Epoch, .slice K0.Clock.Pins.a K0.Clock.Pins.len K0.Clock.Pins.cap, .slice K0.Limbo.a K0.Limbo.len K0.Limbo.cap, .slice K0.Haz.a K0.Haz.len K0.Haz.cap] 57))).cell? ⟨w.heap.size, 6, none⟩ = some (.slice K0.Limbo.a K0.Limbo.len K0.Limbo.cap) := by simp [go_sem]
  have b0_7 : ((w.alloc (.cells #[.slice K0.Mem.Heap.Bytes.a K0.Mem.Heap.Bytes.len K0.Mem.Heap.Bytes.cap, .slice K0.Mem.Heap.Class.a K0.Mem.Heap.Class.len K0.Mem.Heap.Class.cap, .slice K0.Mem.Lists.Global.a K0.Mem.Lists.Global.len K0.Mem.Lists.Global.cap, .slice K0.Mem.Lists.Own.a K0.Mem.Lists.Own.len K0.Mem.Lists.Own.cap, .int .i64 x0.Clock.Epoch, .slice K0.Clock.Pins.a K0.Clock.Pins.len K0.Clock.Pins.cap, .slice K0.Limbo.a K0.Limbo.len K0.Limbo.cap, .slice K0.Haz.a K0.Haz.len K0.Haz.cap] 57))).cell? ⟨w.heap.size, 7, none⟩ = some (.slice K0.Haz.a K0.Haz.len K0.Haz.cap) := by simp [go_sem]
  have z0 : w.heap.size < ((w.alloc (.cells #[.slice K0.Mem.Heap.Bytes.a K0.Mem.Heap.Bytes.len K0.Mem.Heap.Bytes.cap, .slice K0.Mem.Heap.Class.a K0.Mem.Heap.Class.len K0.Mem.Heap.Class.cap, .slice K0.Mem.Lists.Global.a K0.Mem.Lists.Global.len K0.Mem.Lists.Global.cap, .slice K0.Mem.Lists.Own.a K0.Mem.Lists.Own.len K0.Mem.Lists.Own.cap, .int .i64 x0.Clock.Epoch, .slice K0.Clock.Pins.a K0.Clock.Pins.len K0.Clock.Pins.cap, .slice K0.Limbo.a K0.Limbo.len K0.Limbo.cap, .slice K0.Haz.a K0.Haz.len K0.Haz.cap] 57))).heap.size := by simp <;> omega
  generalize hW : (w.alloc (.cells #[.slice K0.Mem.Heap.Bytes.a K0.Mem.Heap.Bytes.len K0.Mem.Heap.Bytes.cap, .slice K0.Mem.Heap.Class.a K0.Mem.Heap.Class.len K0.Mem.Heap.Class.cap, .slice K0.Mem.Lists.Global.a K0.Mem.Lists.Global.len K0.Mem.Lists.Global.cap, .slice K0.Mem.Lists.Own.a K0.Mem.Lists.Own.len K0.Mem.Lists.Own.cap, .int .i64 x0.Clock.Epoch, .slice K0.Clock.Pins.a K0.Clock.Pins.len K0.Clock.Pins.cap, .slice K0.Limbo.a K0.Limbo.len K0.Limbo.cap, .slice K0.Haz.a K0.Haz.len K0.Haz.cap] 57)) = w0 at hB hB0 b0_0 b0_1 b0_2 b0_3 b0_4 b0_5 b0_6 b0_7 z0 ⊢
  clear hW
  have zz0 := z0
  refine (szBase_ct _ K0 x0 1048576 (rdBase_up h0 hB) (by omega)).mono ?_
  rw [HL0.out]
  rintro e w1 ⟨rfl, hb⟩
  replace hB := below_step0 hB hb hB.size
  have sz := hb.size
  replace b0_0 := cell_up hb z0 b0_0
  replace b0_1 := cell_up hb z0 b0_1
  replace b0_2 := cell_up hb z0 b0_2
  replace b0_3 := cell_up hb z0 b0_3
  replace b0_4 := cell_up hb z0 b0_4
  replace b0_5 := cell_up hb z0 b0_5
  replace b0_6 := cell_up hb z0 b0_6
  replace b0_7 := cell_up hb z0 b0_7
  replace z0 := lt_step0 z0 hb
  clear hb
  go_wp2_with fail
  refine (toBase_ct _ K0 x0 (rdBase_up h0 hB) (by omega)).mono ?_
  rintro e w2 ⟨K_a0, rfl, o_a0, lb_a0, hb⟩
  replace hB := below_step0 hB hb hB.size
  have sz := hb.size
  replace b0_0 := cell_up hb z0 b0_0
  replace b0_1 := cell_up hb z0 b0_1
  replace b0_2 := cell_up hb z0 b0_2
  replace b0_3 := cell_up hb z0 b0_3
  replace b0_4 := cell_up hb z0 b0_4
  replace b0_5 := cell_up hb z0 b0_5
  replace b0_6 := cell_up hb z0 b0_6
  replace b0_7 := cell_up hb z0 b0_7
  replace z0 := lt_step0 z0 hb
  clear hb
  have ub_a0 := o_a0.lt
  go_wp2_with fail
  refine (Ranges_specS _ _ x0   o_a0.rd' (by omega)).mono ?_
  rintro e w3 ⟨v_W, rfl, o_W, lb_W, hb⟩
  replace hB := below_step0 hB hb hB.size
  have sz := hb.size
  replace b0_0 := cell_up hb z0 b0_0
  replace b0_1 := cell_up hb z0 b0_1
  replace b0_2 := cell_up hb z0 b0_2
  replace b0_3 := cell_up hb z0 b0_3
  replace b0_4 := cell_up hb z0 b0_4
  replace b0_5 := cell_up hb z0 b0_5
  replace b0_6 := cell_up hb z0 b0_6
  replace b0_7 := cell_up hb z0 b0_7
  replace z0 := lt_step0 z0 hb
  replace o_a0 := o_a0.step0 hb
  clear hb
  have ub_W := foot_lt o_W
  go_wp2_with fail
  refine (toBase_ct _ K0 x0 (rdBase_up h0 hB) (by omega)).mono ?_
  rintro e w4 ⟨K_x0, rfl, o_x0, lb_x0, hb⟩
  replace hB := below_step0 hB hb hB.size
  have sz := hb.size
  replace b0_0 := cell_up hb z0 b0_0
  replace b0_1 := cell_up hb z0 b0_1
  replace b0_2 := cell_up hb z0 b0_2
  replace b0_3 := cell_up hb z0 b0_3
  replace b0_4 := cell_up hb z0 b0_4
  replace b0_5 := cell_up hb z0 b0_5
  replace b0_6 := cell_up hb z0 b0_6
  replace b0_7 := cell_up hb z0 b0_7
  replace z0 := lt_step0 z0 hb
  replace o_a0 := o_a0.step0 hb
  replace o_W := o_W.step0 hb
  clear hb
  have ub_x0 := o_x0.lt
  go_wp2_with fail
  refine (Ranges_implS _ _ x0   (o_x0.alloc_ _).rd' (by omega)).mono ?_
  rintro e w5 ⟨v_G, rfl, o_G, lb_G, hb⟩
  simp only [World.size_alloc] at lb_G
  replace hB := below_step hB hb hB.size
  have sz := hb.size
  simp only [World.size_alloc] at sz
  replace b0_0 := up2 hb z0 b0_0
  replace b0_1 := up2 hb z0 b0_1
  replace b0_2 := up2 hb z0 b0_2
  replace b0_3 := up2 hb z0 b0_3
  replace b0_4 := up2 hb z0 b0_4
  replace b0_5 := up2 hb z0 b0_5
  replace b0_6 := up2 hb z0 b0_6
  replace b0_7 := up2 hb z0 b0_7
  replace z0 := lt_step z0 hb
  have b1_0 := new_cell hb (j := 0) rfl
  have b1_1 := new_cell hb (j := 1) rfl
  have b1_2 := new_cell hb (j := 2) rfl
  have b1_3 := new_cell hb (j := 3) rfl
  have b1_4 := new_cell hb (j := 4) rfl
  have b1_5 := new_cell hb (j := 5) rfl
  have b1_6 := new_cell hb (j := 6) rfl
  have b1_7 := new_cell hb (j := 7) rfl
  have z1 := new_lt hb
  have zz1 := z1
  replace o_a0 := o_a0.step hb
  replace o_W := o_W.step hb
  replace o_x0 := o_x0.step hb
  clear hb
  have ub_G := foot_lt o_G
  go_wp2_with fail
  refine (eqSpanS_ct _ _ _ _ o_G.rd' o_W.rd' (by omega)).mono ?_
  rintro e w6 ⟨rfl, hb⟩
  replace hB := below_step0 hB hb hB.size
  have sz := hb.size
  replace b0_0 := cell_up hb z0 b0_0
  replace b0_1 := cell_up hb z0 b0_1
  replace b0_2 := cell_up hb z0 b0_2
  replace b0_3 := cell_up hb z0 b0_3
  replace b0_4 := cell_up hb z0 b0_4
  replace b0_5 := cell_up hb z0 b0_5
  replace b0_6 := cell_up hb z0 b0_6
  replace b0_7 := cell_up hb z0 b0_7
  replace z0 := lt_step0 z0 hb
  replace b1_0 := cell_up hb z1 b1_0
  replace b1_1 := cell_up hb z1 b1_1
  replace b1_2 := cell_up hb z1 b1_2
  replace b1_3 := cell_up hb z1 b1_3
  replace b1_4 := cell_up hb z1 b1_4
  replace b1_5 := cell_up hb z1 b1_5
  replace b1_6 := cell_up hb z1 b1_6
  replace b1_7 := cell_up hb z1 b1_7
  replace z1 := lt_step0 z1 hb
  replace o_a0 := o_a0.step0 hb
  replace o_W := o_W.step0 hb
  replace o_x0 := o_x0.step0 hb
  replace o_G := o_G.step0 hb
  clear hb
  go_upto_region 10 with (fail)
  go_cut [31] from 27 to 31 (fun r wx => r = .bool false ∧ Below w.heap.size w wx ∧ wx.cell? ⟨w.heap.size, 0, none⟩ = some (.slice K0.Mem.Heap.Bytes.a K0.Mem.Heap.Bytes.len K0.Mem.Heap.Bytes.cap) ∧ wx.cell? ⟨w.heap.size, 1, none⟩ = some (.slice K0.Mem.Heap.Class.a K0.Mem.Heap.Class.len K0.Mem.Heap.Class.cap) ∧ wx.cell? ⟨w.heap.size, 2, none⟩ = some (.slice K0.Mem.Lists.Global.a K0.Mem.Lists.Global.len K0.Mem.Lists.Global.cap) ∧ wx.cell? ⟨w.heap.size, 3, none⟩ = some (.slice K0.Mem.Lists.Own.a K0.Mem.Lists.Own.len K0.Mem.Lists.Own.cap) ∧ wx.cell? ⟨w.heap.size, 4, none⟩ = some (.int .i64 x0.Clock.Epoch) ∧ wx.cell? ⟨w.heap.size, 5, none⟩ = some (.slice K0.Clock.Pins.a K0.Clock.Pins.len K0.Clock.Pins.cap) ∧ wx.cell? ⟨w.heap.size, 6, none⟩ = some (.slice K0.Limbo.a K0.Limbo.len K0.Limbo.cap) ∧ wx.cell? ⟨w.heap.size, 7, none⟩ = some (.slice K0.Haz.a K0.Haz.len K0.Haz.cap) ∧ w.heap.size < wx.heap.size ∧ wx.cell? ⟨w4.heap.size, 0, none⟩ = some (.slice K_x0.Mem.Heap.Bytes.a K_x0.Mem.Heap.Bytes.len K_x0.Mem.Heap.Bytes.cap) ∧ wx.cell? ⟨w4.heap.size, 1, none⟩ = some (.slice K_x0.Mem.Heap.Class.a K_x0.Mem.Heap.Class.len K_x0.Mem.Heap.Class.cap) ∧ wx.cell? ⟨w4.heap.size, 2, none⟩ = some (.slice K_x0.Mem.Lists.Global.a K_x0.Mem.Lists.Global.len K_x0.Mem.Lists.Global.cap) ∧ wx.cell? ⟨w4.heap.size, 3, none⟩ = some (.slice K_x0.Mem.Lists.Own.a K_x0.Mem.Lists.Own.len K_x0.Mem.Lists.Own.cap) ∧ wx.cell? ⟨w4.heap.size, 4, none⟩ = some (.int .i64 x0.Clock.Epoch) ∧ wx.cell? ⟨w4.heap.size, 5, none⟩ = some (.slice K_x0.Clock.Pins.a K_x0.Clock.Pins.len K_x0.Clock.Pins.cap) ∧ wx.cell? ⟨w4.heap.size, 6, none⟩ = some (.slice K_x0.Limbo.a K_x0.Limbo.len K_x0.Limbo.cap) ∧ wx.cell? ⟨w4.heap.size, 7, none⟩ = some (.slice K_x0.Haz.a K_x0.Haz.len K_x0.Haz.cap) ∧ w4.heap.size < wx.heap.size ∧ OwL FSpan 88 wx v_W (rangesP x0) ∧ OwBase wx K_x0 x0 ∧ OwL FSpan 88 wx v_G (rangesP x0))
  case first =>
    go_region_with (first | (go_at_call 28; (first | ((with_reducible refine (toBase_ct _ K0 x0 (rdBase_up h0 hB) (by omega)).mono ?_); rintro e wq ⟨K_c0, rfl, o_c0, lb_c0, hb⟩) | ((with_reducible refine (toBase_ct _ K0 x0 (rdBase_up h0 hB.drew) (by omega)).mono ?_); rintro e wq ⟨K_c0, rfl, o_c0, lb_c0, hb⟩; replace hb := undrew hb; replace lb_c0 := fcdrew lb_c0)); replace hB := below_step0 hB hb hB.size; have sz := hb.size; replace b0_0 := cell_up hb z0 b0_0; replace b0_1 := cell_up hb z0 b0_1; replace b0_2 := cell_up hb z0 b0_2; replace b0_3 := cell_up hb z0 b0_3; replace b0_4 := cell_up hb z0 b0_4; replace b0_5 := cell_up hb z0 b0_5; replace b0_6 := cell_up hb z0 b0_6; replace b0_7 := cell_up hb z0 b0_7; replace z0 := lt_step0 z0 hb; replace b1_0 := cell_up hb z1 b1_0; replace b1_1 := cell_up hb z1 b1_1; replace b1_2 := cell_up hb z1 b1_2; replace b1_3 := cell_up hb z1 b1_3; replace b1_4 := cell_up hb z1 b1_4; replace b1_5 := cell_up hb z1 b1_5; replace b1_6 := cell_up hb z1 b1_6; replace b1_7 := cell_up hb z1 b1_7; replace z1 := lt_step0 z1 hb; replace o_a0 := o_a0.step0 hb; replace o_W := o_W.step0 hb; replace o_x0 := o_x0.step0 hb; replace o_G := o_G.step0 hb; clear hb; have ub_c0 := o_c0.lt) | (go_at_call 30; (with_reducible refine (eqBase_ct _ _ _ _ o_x0.rd' o_c0.rd' (by omega)).mono ?_); rintro e wq ⟨rfl, hb⟩; replace hB := below_step0 hB hb hB.size; have sz := hb.size; replace b0_0 := cell_up hb z0 b0_0; replace b0_1 := cell_up hb z0 b0_1; replace b0_2 := cell_up hb z0 b0_2; replace b0_3 := cell_up hb z0 b0_3; replace b0_4 := cell_up hb z0 b0_4; replace b0_5 := cell_up hb z0 b0_5; replace b0_6 := cell_up hb z0 b0_6; replace b0_7 := cell_up hb z0 b0_7; replace z0 := lt_step0 z0 hb; replace b1_0 := cell_up hb z1 b1_0; replace b1_1 := cell_up hb z1 b1_1; replace b1_2 := cell_up hb z1 b1_2; replace b1_3 := cell_up hb z1 b1_3; replace b1_4 := cell_up hb z1 b1_4; replace b1_5 := cell_up hb z1 b1_5; replace b1_6 := cell_up hb z1 b1_6; replace b1_7 := cell_up hb z1 b1_7; replace z1 := lt_step0 z1 hb; replace o_a0 := o_a0.step0 hb; replace o_W := o_W.step0 hb; replace o_x0 := o_x0.step0 hb; replace o_G := o_G.step0 hb; replace o_c0 := o_c0.step0 hb; clear hb))
    all_goals
      go_wp2_with fail
      go_meet
      exact ⟨rfl, hB, b0_0, b0_1, b0_2, b0_3, b0_4, b0_5, b0_6, b0_7, z0, b1_0, b1_1, b1_2, b1_3, b1_4, b1_5, b1_6, b1_7, z1, o_W, o_x0, o_G⟩
  case rest =>
    clear hB
    clear b0_0
    clear b0_1
    clear b0_2
    clear b0_3
    clear b0_4
    clear b0_5
    clear b0_6
    clear b0_7
    clear z0
    clear b1_0
    clear b1_1
    clear b1_2
    clear b1_3
    clear b1_4
    clear b1_5
    clear b1_6
    clear b1_7
    clear z1
    clear o_W
    clear o_x0
    clear o_G
    obtain ⟨rfl, hB, b0_0, b0_1, b0_2, b0_3, b0_4, b0_5, b0_6, b0_7, z0, b1_0, b1_1, b1_2, b1_3, b1_4, b1_5, b1_6, b1_7, z1, o_W, o_x0, o_G⟩ := hcut
    go_wp2_with fail
    refine (markBase_ct _ _ _ _ o_x0 (by decide) (by omega)).mono ?_
    rintro e w10 ⟨rfl, om, hx⟩
    have hx := hx
    replace hB := hB.trans (hx.below hB.size (fun g hm => by have q := lb_x0 g hm; have := hB0.size; omega))
    have sz := hx.size
    replace b0_0 := (hx.cell w.heap.size 0 z0 (fun hm => by have p := ub_x0 _ hm; have q := lb_x0 _ hm; omega)).trans b0_0
    replace b0_1 := (hx.cell w.heap.size 1 z0 (fun hm => by have p := ub_x0 _ hm; have q := lb_x0 _ hm; omega)).trans b0_1
    replace b0_2 := (hx.cell w.heap.size 2 z0 (fun hm => by have p := ub_x0 _ hm; have q := lb_x0 _ hm; omega)).trans b0_2
    replace b0_3 := (hx.cell w.heap.size 3 z0 (fun hm => by have p := ub_x0 _ hm; have q := lb_x0 _ hm; omega)).trans b0_3
    replace b0_4 := (hx.cell w.heap.size 4 z0 (fun hm => by have p := ub_x0 _ hm; have q := lb_x0 _ hm; omega)).trans b0_4
    replace b0_5 := (hx.cell w.heap.size 5 z0 (fun hm => by have p := ub_x0 _ hm; have q := lb_x0 _ hm; omega)).trans b0_5
    replace b0_6 := (hx.cell w.heap.size 6 z0 (fun hm => by have p := ub_x0 _ hm; have q := lb_x0 _ hm; omega)).trans b0_6
    replace b0_7 := (hx.cell w.heap.size 7 z0 (fun hm => by have p := ub_x0 _ hm; have q := lb_x0 _ hm; omega)).trans b0_7
    replace z0 := Nat.lt_of_lt_of_le z0 hx.size
    replace b1_0 := (hx.cell w4.heap.size 0 z1 (fun hm => by have p := ub_x0 _ hm; have q := lb_x0 _ hm; omega)).trans b1_0
    replace b1_1 := (hx.cell w4.heap.size 1 z1 (fun hm => by have p := ub_x0 _ hm; have q := lb_x0 _ hm; omega)).trans b1_1
    replace b1_2 := (hx.cell w4.heap.size 2 z1 (fun hm => by have p := ub_x0 _ hm; have q := lb_x0 _ hm; omega)).trans b1_2
    replace b1_3 := (hx.cell w4.heap.size 3 z1 (fun hm => by have p := ub_x0 _ hm; have q := lb_x0 _ hm; omega)).trans b1_3
    replace b1_4 := (hx.cell w4.heap.size 4 z1 (fun hm => by have p := ub_x0 _ hm; have q := lb_x0 _ hm; omega)).trans b1_4
    replace b1_5 := (hx.cell w4.heap.size 5 z1 (fun hm => by have p := ub_x0 _ hm; have q := lb_x0 _ hm; omega)).trans b1_5
    replace b1_6 := (hx.cell w4.heap.size 6 z1 (fun hm => by have p := ub_x0 _ hm; have q := lb_x0 _ hm; omega)).trans b1_6
    replace b1_7 := (hx.cell w4.heap.size 7 z1 (fun hm => by have p := ub_x0 _ hm; have q := lb_x0 _ hm; omega)).trans b1_7
    replace z1 := Nat.lt_of_lt_of_le z1 hx.size
    replace o_W := o_W.chg hx (fun g hg hm => by have p := ub_W g hg; have q := lb_x0 g hm; omega)
    replace o_G := o_G.chg hx (fun g hg hm => by have p := ub_x0 g hm; have q := lb_G g hg; omega)
    replace o_x0 := om
    clear om hx
    go_wp2_with fail
    refine (eqSpanS_ct _ _ _ _ o_G.rd' o_W.rd' (by omega)).mono ?_
    rintro e w11 ⟨rfl, hb⟩
    replace hB := below_step0 hB hb hB.size
    have sz := hb.size
    replace b0_0 := cell_up hb z0 b0_0
    replace b0_1 := cell_up hb z0 b0_1
    replace b0_2 := cell_up hb z0 b0_2
    replace b0_3 := cell_up hb z0 b0_3
    replace b0_4 := cell_up hb z0 b0_4
    replace b0_5 := cell_up hb z0 b0_5
    replace b0_6 := cell_up hb z0 b0_6
    replace b0_7 := cell_up hb z0 b0_7
    replace z0 := lt_step0 z0 hb
    replace b1_0 := cell_up hb z1 b1_0
    replace b1_1 := cell_up hb z1 b1_1
    replace b1_2 := cell_up hb z1 b1_2
    replace b1_3 := cell_up hb z1 b1_3
    replace b1_4 := cell_up hb z1 b1_4
    replace b1_5 := cell_up hb z1 b1_5
    replace b1_6 := cell_up hb z1 b1_6
    replace b1_7 := cell_up hb z1 b1_7
    replace z1 := lt_step0 z1 hb
    replace o_W := o_W.step0 hb
    replace o_x0 := o_x0.step0 hb
    replace o_G := o_G.step0 hb
    clear hb
    go_wp2_with fail
    refine (markSpanS_ct _ _ _ _ o_G (by decide) (by omega)).mono ?_
    rintro e w12 ⟨rfl, om, hx, _⟩
    replace hx := Chg.of_grown hx
    replace hB := hB.trans (hx.below hB.size (fun g hm => by have q := lb_G g hm; have := hB0.size; omega))
    have sz := hx.size
    replace b0_0 := (hx.cell w.heap.size 0 z0 (fun hm => by have p := ub_G _ hm; have q := lb_G _ hm; omega)).trans b0_0
    replace b0_1 := (hx.cell w.heap.size 1 z0 (fun hm => by have p := ub_G _ hm; have q := lb_G _ hm; omega)).trans b0_1
    replace b0_2 := (hx.cell w.heap.size 2 z0 (fun hm => by have p := ub_G _ hm; have q := lb_G _ hm; omega)).trans b0_2
    replace b0_3 := (hx.cell w.heap.size 3 z0 (fun hm => by have p := ub_G _ hm; have q := lb_G _ hm; omega)).trans b0_3
    replace b0_4 := (hx.cell w.heap.size 4 z0 (fun hm => by have p := ub_G _ hm; have q := lb_G _ hm; omega)).trans b0_4
    replace b0_5 := (hx.cell w.heap.size 5 z0 (fun hm => by have p := ub_G _ hm; have q := lb_G _ hm; omega)).trans b0_5
    replace b0_6 := (hx.cell w.heap.size 6 z0 (fun hm => by have p := ub_G _ hm; have q := lb_G _ hm; omega)).trans b0_6
    replace b0_7 := (hx.cell w.heap.size 7 z0 (fun hm => by have p := ub_G _ hm; have q := lb_G _ hm; omega)).trans b0_7
    replace z0 := Nat.lt_of_lt_of_le z0 hx.size
    replace b1_0 := (hx.cell w4.heap.size 0 z1 (fun hm => by have p := ub_G _ hm; have q := lb_G _ hm; omega)).trans b1_0
    replace b1_1 := (hx.cell w4.heap.size 1 z1 (fun hm => by have p := ub_G _ hm; have q := lb_G _ hm; omega)).trans b1_1
    replace b1_2 := (hx.cell w4.heap.size 2 z1 (fun hm => by have p := ub_G _ hm; have q := lb_G _ hm; omega)).trans b1_2
    replace b1_3 := (hx.cell w4.heap.size 3 z1 (fun hm => by have p := ub_G _ hm; have q := lb_G _ hm; omega)).trans b1_3
    replace b1_4 := (hx.cell w4.heap.size 4 z1 (fun hm => by have p := ub_G _ hm; have q := lb_G _ hm; omega)).trans b1_4
    replace b1_5 := (hx.cell w4.heap.size 5 z1 (fun hm => by have p := ub_G _ hm; have q := lb_G _ hm; omega)).trans b1_5
    replace b1_6 := (hx.cell w4.heap.size 6 z1 (fun hm => by have p := ub_G _ hm; have q := lb_G _ hm; omega)).trans b1_6
    replace b1_7 := (hx.cell w4.heap.size 7 z1 (fun hm => by have p := ub_G _ hm; have q := lb_G _ hm; omega)).trans b1_7
    replace z1 := Nat.lt_of_lt_of_le z1 hx.size
    replace o_W := o_W.chg hx (fun g hg hm => by have p := ub_W g hg; have q := lb_G g hm; omega)
    replace o_x0 := o_x0.chg hx (fun g hg hm => by have p := ub_x0 g hg; have q := lb_G g hm; omega)
    replace o_G := om
    clear om hx
    go_wp2_with fail
    refine (heldSpanS_ct _ _ _ _ o_G.rd' (by decide) (by omega)).mono ?_
    rintro e w13 ⟨rfl, hb⟩
    replace hB := below_step0 hB hb hB.size
    have sz := hb.size
    replace b0_0 := cell_up hb z0 b0_0
    replace b0_1 := cell_up hb z0 b0_1
    replace b0_2 := cell_up hb z0 b0_2
    replace b0_3 := cell_up hb z0 b0_3
    replace b0_4 := cell_up hb z0 b0_4
    replace b0_5 := cell_up hb z0 b0_5
    replace b0_6 := cell_up hb z0 b0_6
    replace b0_7 := cell_up hb z0 b0_7
    replace z0 := lt_step0 z0 hb
    replace b1_0 := cell_up hb z1 b1_0
    replace b1_1 := cell_up hb z1 b1_1
    replace b1_2 := cell_up hb z1 b1_2
    replace b1_3 := cell_up hb z1 b1_3
    replace b1_4 := cell_up hb z1 b1_4
    replace b1_5 := cell_up hb z1 b1_5
    replace b1_6 := cell_up hb z1 b1_6
    replace b1_7 := cell_up hb z1 b1_7
    replace z1 := lt_step0 z1 hb
    replace o_W := o_W.step0 hb
    replace o_x0 := o_x0.step0 hb
    replace o_G := o_G.step0 hb
    clear hb
    go_wp2_with fail
    refine (toBase_ct _ K0 x0 (rdBase_up h0 hB) (by omega)).mono ?_
    rintro e w14 ⟨K_y0, rfl, o_y0, lb_y0, hb⟩
    replace hB := below_step0 hB hb hB.size
    have sz := hb.size
    replace b0_0 := cell_up hb z0 b0_0
    replace b0_1 := cell_up hb z0 b0_1
    replace b0_2 := cell_up hb z0 b0_2
    replace b0_3 := cell_up hb z0 b0_3
    replace b0_4 := cell_up hb z0 b0_4
    replace b0_5 := cell_up hb z0 b0_5
    replace b0_6 := cell_up hb z0 b0_6
    replace b0_7 := cell_up hb z0 b0_7
    replace z0 := lt_step0 z0 hb
    replace b1_0 := cell_up hb z1 b1_0
    replace b1_1 := cell_up hb z1 b1_1
    replace b1_2 := cell_up hb z1 b1_2
    replace b1_3 := cell_up hb z1 b1_3
    replace b1_4 := cell_up hb z1 b1_4
    replace b1_5 := cell_up hb z1 b1_5
    replace b1_6 := cell_up hb z1 b1_6
    replace b1_7 := cell_up hb z1 b1_7
    replace z1 := lt_step0 z1 hb
    replace o_W := o_W.step0 hb
    replace o_x0 := o_x0.step0 hb
    replace o_G := o_G.step0 hb
    clear hb
    have ub_y0 := o_y0.lt
    go_wp2_with fail
    refine (Ranges_implS _ _ x0   o_y0.rd' (by omega)).mono ?_
    rintro e w15 ⟨v_H, rfl, o_H, lb_H, hb⟩
    replace hB := below_step0 hB hb hB.size
    have sz := hb.size
    replace b0_0 := cell_up hb z0 b0_0
    replace b0_1 := cell_up hb z0 b0_1
    replace b0_2 := cell_up hb z0 b0_2
    replace b0_3 := cell_up hb z0 b0_3
    replace b0_4 := cell_up hb z0 b0_4
    replace b0_5 := cell_up hb z0 b0_5
    replace b0_6 := cell_up hb z0 b0_6
    replace b0_7 := cell_up hb z0 b0_7
    replace z0 := lt_step0 z0 hb
    replace b1_0 := cell_up hb z1 b1_0
    replace b1_1 := cell_up hb z1 b1_1
    replace b1_2 := cell_up hb z1 b1_2
    replace b1_3 := cell_up hb z1 b1_3
    replace b1_4 := cell_up hb z1 b1_4
    replace b1_5 := cell_up hb z1 b1_5
    replace b1_6 := cell_up hb z1 b1_6
    replace b1_7 := cell_up hb z1 b1_7
    replace z1 := lt_step0 z1 hb
    replace o_W := o_W.step0 hb
    replace o_x0 := o_x0.step0 hb
    replace o_G := o_G.step0 hb
    replace o_y0 := o_y0.step0 hb
    clear hb
    have ub_H := foot_lt o_H
    go_wp2_with fail
    refine (eqSpanS_ct _ _ _ _ o_H.rd' o_W.rd' (by omega)).mono ?_
    rintro e w16 ⟨rfl, hb⟩
    replace hB := below_step0 hB hb hB.size
    have sz := hb.size
    replace b0_0 := cell_up hb z0 b0_0
    replace b0_1 := cell_up hb z0 b0_1
    replace b0_2 := cell_up hb z0 b0_2
    replace b0_3 := cell_up hb z0 b0_3
    replace b0_4 := cell_up hb z0 b0_4
    replace b0_5 := cell_up hb z0 b0_5
    replace b0_6 := cell_up hb z0 b0_6
    replace b0_7 := cell_up hb z0 b0_7
    replace z0 := lt_step0 z0 hb
    replace b1_0 := cell_up hb z1 b1_0
    replace b1_1 := cell_up hb z1 b1_1
    replace b1_2 := cell_up hb z1 b1_2
    replace b1_3 := cell_up hb z1 b1_3
    replace b1_4 := cell_up hb z1 b1_4
    replace b1_5 := cell_up hb z1 b1_5
    replace b1_6 := cell_up hb z1 b1_6
    replace b1_7 := cell_up hb z1 b1_7
    replace z1 := lt_step0 z1 hb
    replace o_W := o_W.step0 hb
    replace o_x0 := o_x0.step0 hb
    replace o_G := o_G.step0 hb
    replace o_y0 := o_y0.step0 hb
    replace o_H := o_H.step0 hb
    clear hb
    go_wp2_with fail
    refine (heldSpanS_ct _ _ _ _ o_G.rd' (by decide) (by omega)).mono ?_
    rintro e w17 ⟨rfl, hb⟩
    replace hB := below_step0 hB hb hB.size
    have sz := hb.size
    replace b0_0 := cell_up hb z0 b0_0
    replace b0_1 := cell_up hb z0 b0_1
    replace b0_2 := cell_up hb z0 b0_2
    replace b0_3 := cell_up hb z0 b0_3
    replace b0_4 := cell_up hb z0 b0_4
    replace b0_5 := cell_up hb z0 b0_5
    replace b0_6 := cell_up hb z0 b0_6
    replace b0_7 := cell_up hb z0 b0_7
    replace z0 := lt_step0 z0 hb
    replace b1_0 := cell_up hb z1 b1_0
    replace b1_1 := cell_up hb z1 b1_1
    replace b1_2 := cell_up hb z1 b1_2
    replace b1_3 := cell_up hb z1 b1_3
    replace b1_4 := cell_up hb z1 b1_4
    replace b1_5 := cell_up hb z1 b1_5
    replace b1_6 := cell_up hb z1 b1_6
    replace b1_7 := cell_up hb z1 b1_7
    replace z1 := lt_step0 z1 hb
    replace o_W := o_W.step0 hb
    replace o_x0 := o_x0.step0 hb
    replace o_G := o_G.step0 hb
    replace o_y0 := o_y0.step0 hb
    replace o_H := o_H.step0 hb
    clear hb
    go_wp2_with fail
    go_ret
    exact ⟨rfl, hB⟩
end Go.Proofs.YtkldapdpaldbgaaGreat
