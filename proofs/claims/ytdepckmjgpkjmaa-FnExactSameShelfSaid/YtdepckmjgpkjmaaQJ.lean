/-
  slices.Equal, slices.EqualFunc: the contracts for shelves.
-/
import Derived.Test.YtdepckmjgpkjmaaT
import Derived.Test.YtdepckmjgpkjmaaL
import Derived.Deep.QuietTactic
import Derived.BigQuiet
import Derived.Deep.LoopGhost
import Derived.Deep.RegionHeld3
import Derived.Test.YtdepckmjgpkjmaaN
import Derived.Test.YtdepckmjgpkjmaaA
import Derived.WalkSpells
import Derived.Laws.Cover3
import Derived.Test.YtdepckmjgpkjmaaQ1
import Derived.Test.YtdepckmjgpkjmaaMR
import Derived.Test.YtdepckmjgpkjmaaJ4J
namespace Go.Proofs.Ytdepckmjgpkjmaa
open Go.RowKit
theorem Try.sizeOp : (Try.prog.info? 93).map (·.size) = some 4 := by kernel_rfl
theorem execLOp (ρ : Operand → Value) (d : Option Tmp) (x : Operand) (t : TypeId) (p : String) (af : Array Edge) (g : Option (Nat × Bool)) (w : World) : (execOp ρ ⟨d, .load 93 x, t, p, af, g⟩).run Try.prog w = loadRes Try.prog 93 (ρ x) w := exec_load _ _ _ _ _ _ _ _ _
theorem loadResOp (W : World) (g o : Nat) : loadRes Try.prog 93 (.pointer (some ⟨g, o, none⟩)) W = match row? W g o 4 with | some cs => .ok (.value (.agg cs.toArray)) W | none => stuckLoad Try.prog 93 W g o := loadRule Try.underlying93 rfl Try.sizeOp W g o
attribute [local go_sem ↓] execLOp
attribute [local go_sem] loadResOp

set_option maxRecDepth 100000 in
set_option maxHeartbeats 1000000 in
theorem EqualOp_ct (w : World) (v1 v2 : Value) (x y : List Op) (h1 : RdL FOp w w.heap.size v1 x) (h2 : RdL FOp w w.heap.size v2 y) :
    Calls Try.prog 60 #[v1, v2] w fun e w' => e = .returned (.bool (decide (x = y))) ∧ Below w.heap.size w w' := by
  obtain ⟨A1, c1, hv1, q1, q2, _⟩ := id h1
  obtain ⟨A2, c2, hv2, _, _, _⟩ := id h2
  have hlt0 : x.length ≤ 9223372036854775807 := by unfold maxLen at q2; omega
  subst hv1 hv2
  clear q1 q2
  by_cases hl : x.length = y.length
  case neg =>
    have HN := Hid.mk_ (show decide (x = y) = false from decide_eq_false (fun e => hl (by rw [e])))
    have hl' : ((x.length : Int) != (y.length : Int)) = true := by simp; omega
    go_enter Try.func60, Try.ntmps60
    go_wp2
    go_ret
    exact ⟨ret_bool HN.out.symm, Below.refl _ _⟩
  have HL := Hid.mk_ hl
  rw [← hl] at h2 ⊢
  clear hl
  go_enter Try.func60, Try.ntmps60
  go_wp2
  go_loopw [5, 13] (fun _ i wr => ∃ k : Nat, k ≤ x.length ∧ i = .int .i64 k ∧ Hid (x.take k = y.take k) ∧ Below w.heap.size w wr) (fun _ i _ => x.length - (intOf i).toNat)
  case atStart => exact ⟨0, Nat.zero_le _, rfl, rfl, Below.refl _ _⟩
  case round =>
    obtain ⟨i, hi, rfl, HT, hb⟩ := hrel
    by_cases hlt : i < x.length
    · have hlt2 : i < y.length := by rw [← HL.out]; exact hlt
      obtain ⟨g1, o1, cap1, he1, hg1, _, _, hc1⟩ := (h1.below hb).range_ (List.getElem?_eq_getElem hlt)
      obtain ⟨g2, o2, cap2, he2, hg2, _, _, hc2⟩ := (h2.below hb).range_ (List.getElem?_eq_getElem hlt2)
      injection he1 with e11 e12 e13
      injection he2 with e21 e22 e23
      clear e12 e22
      subst e11 e13 e21 e23
      rw [show FOp.n = 4 from rfl] at hc1 hc2
      replace hc1 := row?_of hc1 (FOp.len _)
      replace hc2 := row?_of hc2 (FOp.len _)
      rw [show FOp.n = 4 from rfl] at hc1 hc2
      have HX := Hid.mk_ (show ∀ (hh : x[i] = y[i]), x.take (i + 1) = y.take (i + 1) from fun hh => eq_take_step hlt hlt2 HT.out hh)
      have HY := Hid.mk_ (show ∀ (hh : x[i] ≠ y[i]), x ≠ y from fun hh => ne_at hlt hlt2 hh)
      have hq : ∀ w : World, (binOp .neq 93 (.agg (FOp.enc x[i]).toArray) (.agg (FOp.enc y[i]).toArray)).run Try.prog w = .ok (.bool (! decide (x[i] = y[i]))) w := neqRunOp _ _
      generalize FOp.enc x[i] = ca at hq hc1
      generalize FOp.enc y[i] = cb at hq hc2
      generalize hga : x[i] = a at *
      generalize hgb : y[i] = b at *
      clear hga hgb h1 h2
      by_cases hh : a = b
      · have HE := Hid.mk_ (HX.out hh)
        rw [decide_eq_true hh] at hq
        clear hh
        go_wp2
        go_quiet (fail)
        all_goals go_wp2
        all_goals go_roundw
        case rel => exact ⟨i + 1, by omega, by go_num, HE, by first | exact hb | exact below_drewN hb _ | exact hb.drew⟩
        case measure => simp [intOf]; omega
      · have HN := Hid.mk_ (show decide (x = y) = false from decide_eq_false (HY.out hh))
        rw [decide_eq_false hh] at hq
        clear hh
        go_wp2
        go_quiet (fail)
        all_goals go_wp2
        all_goals go_ret
        all_goals exact ⟨ret_bool HN.out.symm, by first | exact hb | exact below_drewN hb _ | exact hb.drew⟩
    · go_wp2
      go_ret
      obtain rfl : i = x.length := by omega
      exact ⟨ret_bool (decide_eq_true (eq_take_end HL.out HT.out)).symm, hb⟩
attribute [local go_sem ↓] execJob
attribute [local go_sem] loadResJob

set_option maxRecDepth 100000 in
set_option maxHeartbeats 1000000 in
theorem EqualJob_ct (w : World) (v1 v2 : Value) (x y : List Job) (h1 : RdL FJob w w.heap.size v1 x) (h2 : RdL FJob w w.heap.size v2 y) :
    Calls Try.prog 56 #[v1, v2] w fun e w' => e = .returned (.bool (decide (x = y))) ∧ Below w.heap.size w w' := by
  obtain ⟨A1, c1, hv1, q1, q2, _⟩ := id h1
  obtain ⟨A2, c2, hv2, _, _, _⟩ := id h2
  have hlt0 : x.length ≤ 9223372036854775807 := by unfold maxLen at q2; omega
  subst hv1 hv2
  clear q1 q2
  by_cases hl : x.length = y.length
  case neg =>
    have HN := Hid.mk_ (show decide (x = y) = false from decide_eq_false (fun e => hl (by rw [e])))
    have hl' : ((x.length : Int) != (y.length : Int)) = true := by simp; omega
    go_enter Try.func56, Try.ntmps56
    go_wp2
    go_ret
    exact ⟨ret_bool HN.out.symm, Below.refl _ _⟩
  have HL := Hid.mk_ hl
  rw [← hl] at h2 ⊢
  clear hl
  go_enter Try.func56, Try.ntmps56
  go_wp2
  go_loopw [5, 13] (fun _ i wr => ∃ k : Nat, k ≤ x.length ∧ i = .int .i64 k ∧ Hid (x.take k = y.take k) ∧ Below w.heap.size w wr) (fun _ i _ => x.length - (intOf i).toNat)
  case atStart => exact ⟨0, Nat.zero_le _, rfl, rfl, Below.refl _ _⟩
  case round =>
    obtain ⟨i, hi, rfl, HT, hb⟩ := hrel
    by_cases hlt : i < x.length
    · have hlt2 : i < y.length := by rw [← HL.out]; exact hlt
      obtain ⟨g1, o1, cap1, he1, hg1, _, _, hc1⟩ := (h1.below hb).range_ (List.getElem?_eq_getElem hlt)
      obtain ⟨g2, o2, cap2, he2, hg2, _, _, hc2⟩ := (h2.below hb).range_ (List.getElem?_eq_getElem hlt2)
      injection he1 with e11 e12 e13
      injection he2 with e21 e22 e23
      clear e12 e22
      subst e11 e13 e21 e23
      rw [show FJob.n = 21 from rfl] at hc1 hc2
      replace hc1 := row?_of hc1 (FJob.len _)
      replace hc2 := row?_of hc2 (FJob.len _)
      rw [show FJob.n = 21 from rfl] at hc1 hc2
      have HX := Hid.mk_ (show ∀ (hh : x[i] = y[i]), x.take (i + 1) = y.take (i + 1) from fun hh => eq_take_step hlt hlt2 HT.out hh)
      have HY := Hid.mk_ (show ∀ (hh : x[i] ≠ y[i]), x ≠ y from fun hh => ne_at hlt hlt2 hh)
      have hq : ∀ w : World, (binOp .neq 97 (.agg (FJob.enc x[i]).toArray) (.agg (FJob.enc y[i]).toArray)).run Try.prog w = .ok (.bool (! decide (x[i] = y[i]))) w := neqRunJob _ _
      generalize FJob.enc x[i] = ca at hq hc1
      generalize FJob.enc y[i] = cb at hq hc2
      generalize hga : x[i] = a at *
      generalize hgb : y[i] = b at *
      clear hga hgb h1 h2
      by_cases hh : a = b
      · have HE := Hid.mk_ (HX.out hh)
        rw [decide_eq_true hh] at hq
        clear hh
        go_wp2
        go_quiet (fail)
        all_goals go_wp2
        all_goals go_roundw
        case rel => exact ⟨i + 1, by omega, by go_num, HE, by first | exact hb | exact below_drewN hb _ | exact hb.drew⟩
        case measure => simp [intOf]; omega
      · have HN := Hid.mk_ (show decide (x = y) = false from decide_eq_false (HY.out hh))
        rw [decide_eq_false hh] at hq
        clear hh
        go_wp2
        go_quiet (fail)
        all_goals go_wp2
        all_goals go_ret
        all_goals exact ⟨ret_bool HN.out.symm, by first | exact hb | exact below_drewN hb _ | exact hb.drew⟩
    · go_wp2
      go_ret
      obtain rfl : i = x.length := by omega
      exact ⟨ret_bool (decide_eq_true (eq_take_end HL.out HT.out)).symm, hb⟩
theorem Try.sizeEv : (Try.prog.info? 25).map (·.size) = some 7 := by kernel_rfl
theorem execLEv (ρ : Operand → Value) (d : Option Tmp) (x : Operand) (t : TypeId) (p : String) (af : Array Edge) (g : Option (Nat × Bool)) (w : World) : (execOp ρ ⟨d, .load 25 x, t, p, af, g⟩).run Try.prog w = loadRes Try.prog 25 (ρ x) w := exec_load _ _ _ _ _ _ _ _ _
theorem loadResEv (W : World) (g o : Nat) : loadRes Try.prog 25 (.pointer (some ⟨g, o, none⟩)) W = match row? W g o 7 with | some cs => .ok (.value (.agg cs.toArray)) W | none => stuckLoad Try.prog 25 W g o := loadRule Try.underlying25 rfl Try.sizeEv W g o
attribute [local go_sem ↓] execLEv
attribute [local go_sem] loadResEv

set_option maxRecDepth 100000 in
set_option maxHeartbeats 1000000 in
theorem EqualEv_ct (w : World) (v1 v2 : Value) (x y : List Ev) (h1 : RdL FEv w w.heap.size v1 x) (h2 : RdL FEv w w.heap.size v2 y) :
    Calls Try.prog 57 #[v1, v2] w fun e w' => e = .returned (.bool (decide (x = y))) ∧ Below w.heap.size w w' := by
  obtain ⟨A1, c1, hv1, q1, q2, _⟩ := id h1
  obtain ⟨A2, c2, hv2, _, _, _⟩ := id h2
  have hlt0 : x.length ≤ 9223372036854775807 := by unfold maxLen at q2; omega
  subst hv1 hv2
  clear q1 q2
  by_cases hl : x.length = y.length
  case neg =>
    have HN := Hid.mk_ (show decide (x = y) = false from decide_eq_false (fun e => hl (by rw [e])))
    have hl' : ((x.length : Int) != (y.length : Int)) = true := by simp; omega
    go_enter Try.func57, Try.ntmps57
    go_wp2
    go_ret
    exact ⟨ret_bool HN.out.symm, Below.refl _ _⟩
  have HL := Hid.mk_ hl
  rw [← hl] at h2 ⊢
  clear hl
  go_enter Try.func57, Try.ntmps57
  go_wp2
  go_loopw [5, 13] (fun _ i wr => ∃ k : Nat, k ≤ x.length ∧ i = .int .i64 k ∧ Hid (x.take k = y.take k) ∧ Below w.heap.size w wr) (fun _ i _ => x.length - (intOf i).toNat)
  case atStart => exact ⟨0, Nat.zero_le _, rfl, rfl, Below.refl _ _⟩
  case round =>
    obtain ⟨i, hi, rfl, HT, hb⟩ := hrel
    by_cases hlt : i < x.length
    · have hlt2 : i < y.length := by rw [← HL.out]; exact hlt
      obtain ⟨g1, o1, cap1, he1, hg1, _, _, hc1⟩ := (h1.below hb).range_ (List.getElem?_eq_getElem hlt)
      obtain ⟨g2, o2, cap2, he2, hg2, _, _, hc2⟩ := (h2.below hb).range_ (List.getElem?_eq_getElem hlt2)
      injection he1 with e11 e12 e13
      injection he2 with e21 e22 e23
      clear e12 e22
      subst e11 e13 e21 e23
      rw [show FEv.n = 7 from rfl] at hc1 hc2
      replace hc1 := row?_of hc1 (FEv.len _)
      replace hc2 := row?_of hc2 (FEv.len _)
      rw [show FEv.n = 7 from rfl] at hc1 hc2
      have HX := Hid.mk_ (show ∀ (hh : x[i] = y[i]), x.take (i + 1) = y.take (i + 1) from fun hh => eq_take_step hlt hlt2 HT.out hh)
      have HY := Hid.mk_ (show ∀ (hh : x[i] ≠ y[i]), x ≠ y from fun hh => ne_at hlt hlt2 hh)
      have hq : ∀ w : World, (binOp .neq 25 (.agg (FEv.enc x[i]).toArray) (.agg (FEv.enc y[i]).toArray)).run Try.prog w = .ok (.bool (! decide (x[i] = y[i]))) w := neqRunEv _ _
      generalize FEv.enc x[i] = ca at hq hc1
      generalize FEv.enc y[i] = cb at hq hc2
      generalize hga : x[i] = a at *
      generalize hgb : y[i] = b at *
      clear hga hgb h1 h2
      by_cases hh : a = b
      · have HE := Hid.mk_ (HX.out hh)
        rw [decide_eq_true hh] at hq
        clear hh
        go_wp2
        go_quiet (fail)
        all_goals go_wp2
        all_goals go_roundw
        case rel => exact ⟨i + 1, by omega, by go_num, HE, by first | exact hb | exact below_drewN hb _ | exact hb.drew⟩
        case measure => simp [intOf]; omega
      · have HN := Hid.mk_ (show decide (x = y) = false from decide_eq_false (HY.out hh))
        rw [decide_eq_false hh] at hq
        clear hh
        go_wp2
        go_quiet (fail)
        all_goals go_wp2
        all_goals go_ret
        all_goals exact ⟨ret_bool HN.out.symm, by first | exact hb | exact below_drewN hb _ | exact hb.drew⟩
    · go_wp2
      go_ret
      obtain rfl : i = x.length := by omega
      exact ⟨ret_bool (decide_eq_true (eq_take_end HL.out HT.out)).symm, hb⟩

set_option maxHeartbeats 1000000 in
theorem SameQueue_cl (w : World) (A1 A2 : Option Addr) (c1 c2 : Nat) (x y : List Op) (h1 : RdL FOp w w.heap.size (.slice A1 x.length c1) x) (h2 : RdL FOp w w.heap.size (.slice A2 y.length c2) y) :
    Calls Try.prog 59 #[.agg #[.slice A1 x.length c1], .agg #[.slice A2 y.length c2]] w fun e w' => e = .returned (.bool (decide (x = y))) ∧ Below w.heap.size w w' := by
  have hB : Below w.heap.size w ((w.alloc (.cells #[.slice A1 x.length c1] 100)).alloc (.cells #[.slice A2 y.length c2] 100)) := ((Below.refl _ _).alloc (Nat.le_refl _) _).alloc (by simp) _
  go_enter Try.func59, Try.ntmps59
  go_wp2_with fail
  refine (EqualOp_ct _ _ _ x y (rd_up h1 hB) (rd_up h2 hB)).mono ?_
  rintro e w1 ⟨rfl, hb1⟩
  go_wp2
  go_ret
  exact ⟨rfl, hB.trans (hb1.mono hB.size)⟩
set_option maxRecDepth 100000 in
set_option maxHeartbeats 1000000 in
theorem EqualFuncQueue_ct (w : World) (v1 v2 : Value) (t1 t2 : List SV) (a b : List (List Op)) (h1 : RdLL FOp w w.heap.size v1 t1 a) (h2 : RdLL FOp w w.heap.size v2 t2 b) :
    Calls Try.prog 58 #[v1, v2, .func (.func 59) #[] #[]] w fun e w' => e = .returned (.bool (decide (a = b))) ∧ Below w.heap.size w w' := by
  obtain ⟨A1, c1, hv1, _⟩ := id h1.outer
  obtain ⟨A2, c2, hv2, _⟩ := id h2.outer
  subst hv1 hv2
  obtain ⟨en1, hcap1, hmx1⟩ := h1.len'
  obtain ⟨en2, _, hmx2⟩ := h2.len'
  have hlt1 : a.length ≤ 9223372036854775807 := by unfold maxLen at hmx1; omega
  have hlt2 : b.length ≤ 9223372036854775807 := by unfold maxLen at hmx2; omega
  rw [en1] at h1 ⊢
  rw [en2] at h2 ⊢
  clear en1 hcap1 hmx1 en2 hmx2
  by_cases hl : a.length = b.length
  case neg =>
    have HN := Hid.mk_ (show decide (a = b) = false from decide_eq_false (fun e => hl (by rw [e])))
    have hl' : ((a.length : Int) != (b.length : Int)) = true := by simp; omega
    go_enter Try.func58, Try.ntmps58
    go_wp2
    go_ret
    exact ⟨ret_bool HN.out.symm, Below.refl _ _⟩
  have HL := Hid.mk_ hl
  clear hlt2
  rw [← hl] at h2 ⊢
  clear hl
  go_enter Try.func58, Try.ntmps58
  go_wp2
  go_loopw [7, 8, 9, 17] (fun _ _ _ i wr => ∃ k : Nat, k ≤ a.length ∧ i = .int .i64 k ∧ Hid (a.take k = b.take k) ∧ Below w.heap.size w wr) (fun _ _ _ i _ => a.length - (intOf i).toNat)
  case atStart => exact ⟨0, Nat.zero_le _, rfl, rfl, Below.refl _ _⟩
  case round =>
    obtain ⟨i, hi, rfl, HT, hb⟩ := hrel
    by_cases hlt : i < a.length
    · have hlt2 : i < b.length := by rw [← HL.out]; exact hlt
      obtain ⟨g1, o1, B1, d1, e1, hg1, p0, r1⟩ := h1.row hb hlt
      obtain ⟨g2, o2, B2, d2, e2, hg2, p1, r2⟩ := h2.row hb hlt2
      subst e1 e2
      have z2 : g2 < wr.heap.size := Nat.lt_of_lt_of_le hg2 hb.size
      clear h1 h2
      go_wp2_with fail
      refine (SameQueue_cl _ B1 B2 d1 d2 a[i] b[i] (rd_up r1 ?hq1) (rd_up r2 ?hq2)).mono ?_
      case hq1 => exact (hb.alloc hb.size _).alloc (by have := hb.size; simp; omega) _
      case hq2 => exact (hb.alloc hb.size _).alloc (by have := hb.size; simp; omega) _
      rintro e w1 ⟨rfl, hb1⟩
      have hb2 : Below w.heap.size w w1 := Below.trans ((hb.alloc hb.size _).alloc (by have := hb.size; simp; omega) _) (hb1.mono (by have := hb.size; simp; omega))
      by_cases he : a[i] = b[i]
      · have HE := Hid.mk_ (eq_take_step hlt hlt2 HT.out he)
        rw [decide_eq_true he]
        clear he
        go_wp2
        go_roundw
        case rel => exact ⟨i + 1, by omega, by go_num, HE, hb2⟩
        case measure => simp [intOf]; omega
      · have HN := Hid.mk_ (show decide (a = b) = false from decide_eq_false (ne_at hlt hlt2 he))
        rw [decide_eq_false he]
        clear he
        go_wp2
        go_ret
        exact ⟨ret_bool HN.out.symm, hb2⟩
    · go_wp2
      go_ret
      obtain rfl : i = a.length := by omega
      exact ⟨ret_bool (decide_eq_true (eq_take_end HL.out HT.out)).symm, hb⟩
end Go.Proofs.Ytdepckmjgpkjmaa
