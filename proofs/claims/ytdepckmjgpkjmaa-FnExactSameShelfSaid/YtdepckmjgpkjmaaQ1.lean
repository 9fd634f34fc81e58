/-
  slices.Equal, slices.EqualFunc: the contracts.
-/
import Derived.Test.YtdepckmjgpkjmaaT
import Derived.Test.YtdepckmjgpkjmaaL
import Derived.Deep.QuietTactic
import Derived.BigQuiet
import Derived.Deep.LoopGhost
import Derived.Deep.RegionHeld3
import Derived.Test.YtdepckmjgpkjmaaN
import Derived.Test.YtdepckmjgpkjmaaA
import Derived.WalkSpells
import Derived.Laws.Cover3
import Derived.Test.YtdepckmjgpkjmaaQ0
namespace Go.Proofs.Ytdepckmjgpkjmaa
open Go.RowKit

set_option maxRecDepth 100000 in
set_option maxHeartbeats 1000000 in
theorem EqualInt_ct (w : World) (v1 v2 : Value) (x y : List Int) (h1 : RdL FI w w.heap.size v1 x) (h2 : RdL FI w w.heap.size v2 y) :
    Calls Try.prog 55 #[v1, v2] w fun e w' => e = .returned (.bool (decide (x = y))) ∧ Below w.heap.size w w' := by
  obtain ⟨A1, c1, hv1, q1, q2, _⟩ := id h1
  obtain ⟨A2, c2, hv2, _, _, _⟩ := id h2
  have hlt0 : x.length ≤ 9223372036854775807 := by unfold maxLen at q2; omega
  subst hv1 hv2
  clear q1 q2
  by_cases hl : x.length = y.length
  case neg =>
    have HN := Hid.mk_ (show decide (x = y) = false from decide_eq_false (fun e => hl (by rw [e])))
    have hl' : ((x.length : Int) != (y.length : Int)) = true := by simp; omega
    go_enter Try.func55, Try.ntmps55
    go_wp2
    go_ret
    exact ⟨ret_bool HN.out.symm, Below.refl _ _⟩
  have HL := Hid.mk_ hl
  rw [← hl] at h2 ⊢
  clear hl
  go_enter Try.func55, Try.ntmps55
  go_wp2
  go_loopw [5, 13] (fun _ i wr => ∃ k : Nat, k ≤ x.length ∧ i = .int .i64 k ∧ Hid (x.take k = y.take k) ∧ Below w.heap.size w wr) (fun _ i _ => x.length - (intOf i).toNat)
  case atStart => exact ⟨0, Nat.zero_le _, rfl, rfl, Below.refl _ _⟩
  case round =>
    obtain ⟨i, hi, rfl, HT, hb⟩ := hrel
    by_cases hlt : i < x.length
    · have hlt2 : i < y.length := by rw [← HL.out]; exact hlt
      obtain ⟨g1, o1, cap1, he1, hg1, _, _, hc1⟩ := (h1.below hb).at_ (List.getElem?_eq_getElem hlt)
      obtain ⟨g2, o2, cap2, he2, hg2, _, _, hc2⟩ := (h2.below hb).at_ (List.getElem?_eq_getElem hlt2)
      injection he1 with e11 e12 e13
      injection he2 with e21 e22 e23
      clear e12 e22
      subst e11 e13 e21 e23
      have p0 : wr.cell? ⟨g1, o1 + i, none⟩ = some (.int .i64 x[i]) := by simpa [FI] using hc1 0 _ rfl
      have r0 : wr.cell? ⟨g2, o2 + i, none⟩ = some (.int .i64 y[i]) := by simpa [FI] using hc2 0 _ rfl
      clear hc1 hc2 h1 h2
      have HX := Hid.mk_ (show ∀ (hh : x[i] = y[i]), x.take (i + 1) = y.take (i + 1) from fun hh => eq_take_step hlt hlt2 HT.out hh)
      have HY := Hid.mk_ (show ∀ (hh : x[i] ≠ y[i]), decide (x = y) = false from fun hh => decide_eq_false (ne_at hlt hlt2 hh))
      generalize x[i] = a at *
      generalize y[i] = b at *
      by_cases hh : a = b
      · have HE := Hid.mk_ (HX.out hh)
        have hq : (a != b) = false := by simp [hh]
        clear hh
        go_wp2
        go_region
        all_goals go_wp2
        all_goals go_roundw
        case rel => exact ⟨i + 1, by omega, by go_num, HE, by first | exact hb | exact hb.drew | exact hb.drew.drew | exact hb.drew.drew.drew⟩
        case measure => simp [intOf]; omega
      · have HN := Hid.mk_ (HY.out hh)
        have hq : (a != b) = true := by simp [hh]
        clear hh
        go_wp2
        go_region
        all_goals go_wp2
        all_goals go_ret
        all_goals exact ⟨ret_bool HN.out.symm, by first | exact hb | exact hb.drew | exact hb.drew.drew | exact hb.drew.drew.drew⟩
    · go_wp2
      go_ret
      obtain rfl : i = x.length := by omega
      exact ⟨ret_bool (decide_eq_true (eq_take_end HL.out HT.out)).symm, hb⟩

set_option maxRecDepth 100000 in
set_option maxHeartbeats 1000000 in
theorem EqualLRow_ct (w : World) (v1 v2 : Value) (x y : List LRow) (h1 : RdL FLRow w w.heap.size v1 x) (h2 : RdL FLRow w w.heap.size v2 y) :
    Calls Try.prog 145 #[v1, v2] w fun e w' => e = .returned (.bool (decide (x = y))) ∧ Below w.heap.size w w' := by
  obtain ⟨A1, c1, hv1, q1, q2, _⟩ := id h1
  obtain ⟨A2, c2, hv2, _, _, _⟩ := id h2
  have hlt0 : x.length ≤ 9223372036854775807 := by unfold maxLen at q2; omega
  subst hv1 hv2
  clear q1 q2
  by_cases hl : x.length = y.length
  case neg =>
    have HN := Hid.mk_ (show decide (x = y) = false from decide_eq_false (fun e => hl (by rw [e])))
    have hl' : ((x.length : Int) != (y.length : Int)) = true := by simp; omega
    go_enter Try.func145, Try.ntmps145
    go_wp2
    go_ret
    exact ⟨ret_bool HN.out.symm, Below.refl _ _⟩
  have HL := Hid.mk_ hl
  rw [← hl] at h2 ⊢
  clear hl
  go_enter Try.func145, Try.ntmps145
  go_wp2
  go_loopw [5, 13] (fun _ i wr => ∃ k : Nat, k ≤ x.length ∧ i = .int .i64 k ∧ Hid (x.take k = y.take k) ∧ Below w.heap.size w wr) (fun _ i _ => x.length - (intOf i).toNat)
  case atStart => exact ⟨0, Nat.zero_le _, rfl, rfl, Below.refl _ _⟩
  case round =>
    obtain ⟨i, hi, rfl, HT, hb⟩ := hrel
    by_cases hlt : i < x.length
    · have hlt2 : i < y.length := by rw [← HL.out]; exact hlt
      obtain ⟨g1, o1, cap1, he1, hg1, _, _, hc1⟩ := (h1.below hb).at_ (List.getElem?_eq_getElem hlt)
      obtain ⟨g2, o2, cap2, he2, hg2, _, _, hc2⟩ := (h2.below hb).at_ (List.getElem?_eq_getElem hlt2)
      injection he1 with e11 e12 e13
      injection he2 with e21 e22 e23
      clear e12 e22
      subst e11 e13 e21 e23
      have p0 : wr.cell? ⟨g1, o1 + i * 2, none⟩ = some (.int .i64 x[i].Handle) := hc1 0 _ rfl
      have p1 : wr.cell? ⟨g1, o1 + i * 2 + 1, none⟩ = some (.int .i64 x[i].Epoch) := hc1 1 _ rfl
      have r0 : wr.cell? ⟨g2, o2 + i * 2, none⟩ = some (.int .i64 y[i].Handle) := hc2 0 _ rfl
      have r1 : wr.cell? ⟨g2, o2 + i * 2 + 1, none⟩ = some (.int .i64 y[i].Epoch) := hc2 1 _ rfl
      clear hc1 hc2 h1 h2
      have HX := Hid.mk_ (show ∀ (hh : x[i] = y[i]), x.take (i + 1) = y.take (i + 1) from fun hh => eq_take_step hlt hlt2 HT.out hh)
      have HY := Hid.mk_ (show ∀ (hh : x[i] ≠ y[i]), decide (x = y) = false from fun hh => decide_eq_false (ne_at hlt hlt2 hh))
      generalize x[i] = a at *
      generalize y[i] = b at *
      have hq := neqRunLRow a b
      by_cases hh : a = b
      · have HE := Hid.mk_ (HX.out hh)
        rw [decide_eq_true hh] at hq
        clear hh
        go_wp2
        go_region
        all_goals go_wp2
        all_goals go_roundw
        case rel => exact ⟨i + 1, by omega, by go_num, HE, by first | exact hb | exact hb.drew | exact hb.drew.drew | exact hb.drew.drew.drew⟩
        case measure => simp [intOf]; omega
      · have HN := Hid.mk_ (HY.out hh)
        rw [decide_eq_false hh] at hq
        clear hh
        go_wp2
        go_region
        all_goals go_wp2
        all_goals go_ret
        all_goals exact ⟨ret_bool HN.out.symm, by first | exact hb | exact hb.drew | exact hb.drew.drew | exact hb.drew.drew.drew⟩
    · go_wp2
      go_ret
      obtain rfl : i = x.length := by omega
      exact ⟨ret_bool (decide_eq_true (eq_take_end HL.out HT.out)).symm, hb⟩

set_option maxRecDepth 100000 in
set_option maxHeartbeats 1000000 in
theorem EqualPin_ct (w : World) (v1 v2 : Value) (x y : List Pin) (h1 : RdL FPin w w.heap.size v1 x) (h2 : RdL FPin w w.heap.size v2 y) :
    Calls Try.prog 142 #[v1, v2] w fun e w' => e = .returned (.bool (decide (x = y))) ∧ Below w.heap.size w w' := by
  obtain ⟨A1, c1, hv1, q1, q2, _⟩ := id h1
  obtain ⟨A2, c2, hv2, _, _, _⟩ := id h2
  have hlt0 : x.length ≤ 9223372036854775807 := by unfold maxLen at q2; omega
  subst hv1 hv2
  clear q1 q2
  by_cases hl : x.length = y.length
  case neg =>
    have HN := Hid.mk_ (show decide (x = y) = false from decide_eq_false (fun e => hl (by rw [e])))
    have hl' : ((x.length : Int) != (y.length : Int)) = true := by simp; omega
    go_enter Try.func142, Try.ntmps142
    go_wp2
    go_ret
    exact ⟨ret_bool HN.out.symm, Below.refl _ _⟩
  have HL := Hid.mk_ hl
  rw [← hl] at h2 ⊢
  clear hl
  go_enter Try.func142, Try.ntmps142
  go_wp2
  go_loopw [5, 13] (fun _ i wr => ∃ k : Nat, k ≤ x.length ∧ i = .int .i64 k ∧ Hid (x.take k = y.take k) ∧ Below w.heap.size w wr) (fun _ i _ => x.length - (intOf i).toNat)
  case atStart => exact ⟨0, Nat.zero_le _, rfl, rfl, Below.refl _ _⟩
  case round =>
    obtain ⟨i, hi, rfl, HT, hb⟩ := hrel
    by_cases hlt : i < x.length
    · have hlt2 : i < y.length := by rw [← HL.out]; exact hlt
      obtain ⟨g1, o1, cap1, he1, hg1, _, _, hc1⟩ := (h1.below hb).at_ (List.getElem?_eq_getElem hlt)
      obtain ⟨g2, o2, cap2, he2, hg2, _, _, hc2⟩ := (h2.below hb).at_ (List.getElem?_eq_getElem hlt2)
      injection he1 with e11 e12 e13
      injection he2 with e21 e22 e23
      clear e12 e22
      subst e11 e13 e21 e23
      have p0 : wr.cell? ⟨g1, o1 + i * 4, none⟩ = some (.bool x[i].On) := hc1 0 _ rfl
      have p1 : wr.cell? ⟨g1, o1 + i * 4 + 1, none⟩ = some (.int .i64 x[i].Epoch) := hc1 1 _ rfl
      have p2 : wr.cell? ⟨g1, o1 + i * 4 + 2, none⟩ = some (.bool x[i].Marked) := hc1 2 _ rfl
      have p3 : wr.cell? ⟨g1, o1 + i * 4 + 3, none⟩ = some (.int .i64 x[i].Seen) := hc1 3 _ rfl
      have r0 : wr.cell? ⟨g2, o2 + i * 4, none⟩ = some (.bool y[i].On) := hc2 0 _ rfl
      have r1 : wr.cell? ⟨g2, o2 + i * 4 + 1, none⟩ = some (.int .i64 y[i].Epoch) := hc2 1 _ rfl
      have r2 : wr.cell? ⟨g2, o2 + i * 4 + 2, none⟩ = some (.bool y[i].Marked) := hc2 2 _ rfl
      have r3 : wr.cell? ⟨g2, o2 + i * 4 + 3, none⟩ = some (.int .i64 y[i].Seen) := hc2 3 _ rfl
      clear hc1 hc2 h1 h2
      have HX := Hid.mk_ (show ∀ (hh : x[i] = y[i]), x.take (i + 1) = y.take (i + 1) from fun hh => eq_take_step hlt hlt2 HT.out hh)
      have HY := Hid.mk_ (show ∀ (hh : x[i] ≠ y[i]), decide (x = y) = false from fun hh => decide_eq_false (ne_at hlt hlt2 hh))
      generalize x[i] = a at *
      generalize y[i] = b at *
      have hq := neqRunPin a b
      by_cases hh : a = b
      · have HE := Hid.mk_ (HX.out hh)
        rw [decide_eq_true hh] at hq
        clear hh
        go_wp2
        go_region
        all_goals go_wp2
        all_goals go_roundw
        case rel => exact ⟨i + 1, by omega, by go_num, HE, by first | exact hb | exact hb.drew | exact hb.drew.drew | exact hb.drew.drew.drew⟩
        case measure => simp [intOf]; omega
      · have HN := Hid.mk_ (HY.out hh)
        rw [decide_eq_false hh] at hq
        clear hh
        go_wp2
        go_region
        all_goals go_wp2
        all_goals go_ret
        all_goals exact ⟨ret_bool HN.out.symm, by first | exact hb | exact hb.drew | exact hb.drew.drew | exact hb.drew.drew.drew⟩
    · go_wp2
      go_ret
      obtain rfl : i = x.length := by omega
      exact ⟨ret_bool (decide_eq_true (eq_take_end HL.out HT.out)).symm, hb⟩

set_option maxHeartbeats 1000000 in
theorem SameSList_cl (w : World) (A1 A2 : Option Addr) (c1 c2 : Nat) (x y : List Int) (h1 : RdL FI w w.heap.size (.slice A1 x.length c1) x) (h2 : RdL FI w w.heap.size (.slice A2 y.length c2) y) :
    Calls Try.prog 171 #[.agg #[.slice A1 x.length c1], .agg #[.slice A2 y.length c2]] w fun e w' => e = .returned (.bool (decide (x = y))) ∧ Below w.heap.size w w' := by
  have hB : Below w.heap.size w ((w.alloc (.cells #[.slice A1 x.length c1] 201)).alloc (.cells #[.slice A2 y.length c2] 201)) := ((Below.refl _ _).alloc (Nat.le_refl _) _).alloc (by simp) _
  go_enter Try.func171, Try.ntmps171
  go_wp2_with fail
  refine (EqualInt_ct _ _ _ x y (rd_up h1 hB) (rd_up h2 hB)).mono ?_
  rintro e w1 ⟨rfl, hb1⟩
  go_wp2
  go_ret
  exact ⟨rfl, hB.trans (hb1.mono hB.size)⟩
set_option maxRecDepth 100000 in
set_option maxHeartbeats 1000000 in
theorem EqualFuncSList_ct (w : World) (v1 v2 : Value) (t1 t2 : List SV) (a b : List (List Int)) (h1 : RdLL FI w w.heap.size v1 t1 a) (h2 : RdLL FI w w.heap.size v2 t2 b) :
    Calls Try.prog 172 #[v1, v2, .func (.func 171) #[] #[]] w fun e w' => e = .returned (.bool (decide (a = b))) ∧ Below w.heap.size w w' := by
  obtain ⟨A1, c1, hv1, _⟩ := id h1.outer
  obtain ⟨A2, c2, hv2, _⟩ := id h2.outer
  subst hv1 hv2
  obtain ⟨en1, hcap1, hmx1⟩ := h1.len'
  obtain ⟨en2, _, hmx2⟩ := h2.len'
  have hlt1 : a.length ≤ 9223372036854775807 := by unfold maxLen at hmx1; omega
  have hlt2 : b.length ≤ 9223372036854775807 := by unfold maxLen at hmx2; omega
  rw [en1] at h1 ⊢
  rw [en2] at h2 ⊢
  clear en1 hcap1 hmx1 en2 hmx2
  by_cases hl : a.length = b.length
  case neg =>
    have HN := Hid.mk_ (show decide (a = b) = false from decide_eq_false (fun e => hl (by rw [e])))
    have hl' : ((a.length : Int) != (b.length : Int)) = true := by simp; omega
    go_enter Try.func172, Try.ntmps172
    go_wp2
    go_ret
    exact ⟨ret_bool HN.out.symm, Below.refl _ _⟩
  have HL := Hid.mk_ hl
  clear hlt2
  rw [← hl] at h2 ⊢
  clear hl
  go_enter Try.func172, Try.ntmps172
  go_wp2
  go_loopw [7, 8, 9, 17] (fun _ _ _ i wr => ∃ k : Nat, k ≤ a.length ∧ i = .int .i64 k ∧ Hid (a.take k = b.take k) ∧ Below w.heap.size w wr) (fun _ _ _ i _ => a.length - (intOf i).toNat)
  case atStart => exact ⟨0, Nat.zero_le _, rfl, rfl, Below.refl _ _⟩
  case round =>
    obtain ⟨i, hi, rfl, HT, hb⟩ := hrel
    by_cases hlt : i < a.length
    · have hlt2 : i < b.length := by rw [← HL.out]; exact hlt
      obtain ⟨g1, o1, B1, d1, e1, hg1, p0, r1⟩ := h1.row hb hlt
      obtain ⟨g2, o2, B2, d2, e2, hg2, p1, r2⟩ := h2.row hb hlt2
      subst e1 e2
      have z2 : g2 < wr.heap.size := Nat.lt_of_lt_of_le hg2 hb.size
      clear h1 h2
      go_wp2_with fail
      refine (SameSList_cl _ B1 B2 d1 d2 a[i] b[i] (rd_up r1 ?hq1) (rd_up r2 ?hq2)).mono ?_
      case hq1 => exact (hb.alloc hb.size _).alloc (by have := hb.size; simp; omega) _
      case hq2 => exact (hb.alloc hb.size _).alloc (by have := hb.size; simp; omega) _
      rintro e w1 ⟨rfl, hb1⟩
      have hb2 : Below w.heap.size w w1 := Below.trans ((hb.alloc hb.size _).alloc (by have := hb.size; simp; omega) _) (hb1.mono (by have := hb.size; simp; omega))
      by_cases he : a[i] = b[i]
      · have HE := Hid.mk_ (eq_take_step hlt hlt2 HT.out he)
        rw [decide_eq_true he]
        clear he
        go_wp2
        go_roundw
        case rel => exact ⟨i + 1, by omega, by go_num, HE, hb2⟩
        case measure => simp [intOf]; omega
      · have HN := Hid.mk_ (show decide (a = b) = false from decide_eq_false (ne_at hlt hlt2 he))
        rw [decide_eq_false he]
        clear he
        go_wp2
        go_ret
        exact ⟨ret_bool HN.out.symm, hb2⟩
    · go_wp2
      go_ret
      obtain rfl : i = a.length := by omega
      exact ⟨ret_bool (decide_eq_true (eq_take_end HL.out HT.out)).symm, hb⟩

set_option maxHeartbeats 1000000 in
theorem SameLList_cl (w : World) (A1 A2 : Option Addr) (c1 c2 : Nat) (x y : List LRow) (h1 : RdL FLRow w w.heap.size (.slice A1 x.length c1) x) (h2 : RdL FLRow w w.heap.size (.slice A2 y.length c2) y) :
    Calls Try.prog 144 #[.agg #[.slice A1 x.length c1], .agg #[.slice A2 y.length c2]] w fun e w' => e = .returned (.bool (decide (x = y))) ∧ Below w.heap.size w w' := by
  have hB : Below w.heap.size w ((w.alloc (.cells #[.slice A1 x.length c1] 167)).alloc (.cells #[.slice A2 y.length c2] 167)) := ((Below.refl _ _).alloc (Nat.le_refl _) _).alloc (by simp) _
  go_enter Try.func144, Try.ntmps144
  go_wp2_with fail
  refine (EqualLRow_ct _ _ _ x y (rd_up h1 hB) (rd_up h2 hB)).mono ?_
  rintro e w1 ⟨rfl, hb1⟩
  go_wp2
  go_ret
  exact ⟨rfl, hB.trans (hb1.mono hB.size)⟩
set_option maxRecDepth 100000 in
set_option maxHeartbeats 1000000 in
theorem EqualFuncLList_ct (w : World) (v1 v2 : Value) (t1 t2 : List SV) (a b : List (List LRow)) (h1 : RdLL FLRow w w.heap.size v1 t1 a) (h2 : RdLL FLRow w w.heap.size v2 t2 b) :
    Calls Try.prog 143 #[v1, v2, .func (.func 144) #[] #[]] w fun e w' => e = .returned (.bool (decide (a = b))) ∧ Below w.heap.size w w' := by
  obtain ⟨A1, c1, hv1, _⟩ := id h1.outer
  obtain ⟨A2, c2, hv2, _⟩ := id h2.outer
  subst hv1 hv2
  obtain ⟨en1, hcap1, hmx1⟩ := h1.len'
  obtain ⟨en2, _, hmx2⟩ := h2.len'
  have hlt1 : a.length ≤ 9223372036854775807 := by unfold maxLen at hmx1; omega
  have hlt2 : b.length ≤ 9223372036854775807 := by unfold maxLen at hmx2; omega
  rw [en1] at h1 ⊢
  rw [en2] at h2 ⊢
  clear en1 hcap1 hmx1 en2 hmx2
  by_cases hl : a.length = b.length
  case neg =>
    have HN := Hid.mk_ (show decide (a = b) = false from decide_eq_false (fun e => hl (by rw [e])))
    have hl' : ((a.length : Int) != (b.length : Int)) = true := by simp; omega
    go_enter Try.func143, Try.ntmps143
    go_wp2
    go_ret
    exact ⟨ret_bool HN.out.symm, Below.refl _ _⟩
  have HL := Hid.mk_ hl
  clear hlt2
  rw [← hl] at h2 ⊢
  clear hl
  go_enter Try.func143, Try.ntmps143
  go_wp2
  go_loopw [7, 8, 9, 17] (fun _ _ _ i wr => ∃ k : Nat, k ≤ a.length ∧ i = .int .i64 k ∧ Hid (a.take k = b.take k) ∧ Below w.heap.size w wr) (fun _ _ _ i _ => a.length - (intOf i).toNat)
  case atStart => exact ⟨0, Nat.zero_le _, rfl, rfl, Below.refl _ _⟩
  case round =>
    obtain ⟨i, hi, rfl, HT, hb⟩ := hrel
    by_cases hlt : i < a.length
    · have hlt2 : i < b.length := by rw [← HL.out]; exact hlt
      obtain ⟨g1, o1, B1, d1, e1, hg1, p0, r1⟩ := h1.row hb hlt
      obtain ⟨g2, o2, B2, d2, e2, hg2, p1, r2⟩ := h2.row hb hlt2
      subst e1 e2
      have z2 : g2 < wr.heap.size := Nat.lt_of_lt_of_le hg2 hb.size
      clear h1 h2
      go_wp2_with fail
      refine (SameLList_cl _ B1 B2 d1 d2 a[i] b[i] (rd_up r1 ?hq1) (rd_up r2 ?hq2)).mono ?_
      case hq1 => exact (hb.alloc hb.size _).alloc (by have := hb.size; simp; omega) _
      case hq2 => exact (hb.alloc hb.size _).alloc (by have := hb.size; simp; omega) _
      rintro e w1 ⟨rfl, hb1⟩
      have hb2 : Below w.heap.size w w1 := Below.trans ((hb.alloc hb.size _).alloc (by have := hb.size; simp; omega) _) (hb1.mono (by have := hb.size; simp; omega))
      by_cases he : a[i] = b[i]
      · have HE := Hid.mk_ (eq_take_step hlt hlt2 HT.out he)
        rw [decide_eq_true he]
        clear he
        go_wp2
        go_roundw
        case rel => exact ⟨i + 1, by omega, by go_num, HE, hb2⟩
        case measure => simp [intOf]; omega
      · have HN := Hid.mk_ (show decide (a = b) = false from decide_eq_false (ne_at hlt hlt2 he))
        rw [decide_eq_false he]
        clear he
        go_wp2
        go_ret
        exact ⟨ret_bool HN.out.symm, hb2⟩
    · go_wp2
      go_ret
      obtain rfl : i = a.length := by omega
      exact ⟨ret_bool (decide_eq_true (eq_take_end HL.out HT.out)).symm, hb⟩
end Go.Proofs.Ytdepckmjgpkjmaa
