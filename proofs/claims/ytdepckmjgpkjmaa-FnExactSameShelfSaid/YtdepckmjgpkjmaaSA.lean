/-
  Equal lists, clocks, limbo lists: the contracts.
-/
import Derived.Test.YtdepckmjgpkjmaaT
import Derived.Test.YtdepckmjgpkjmaaL
import Derived.Deep.QuietTactic
import Derived.BigQuiet
import Derived.Deep.LoopGhost
import Derived.Deep.RegionHeld3
import Derived.Test.YtdepckmjgpkjmaaN
import Derived.Test.YtdepckmjgpkjmaaA
import Derived.WalkSpells
import Derived.Laws.Cover3
import Derived.Test.YtdepckmjgpkjmaaQ1
import Derived.Test.YtdepckmjgpkjmaaVB
namespace Go.Proofs.Ytdepckmjgpkjmaa
open Go.RowKit

def sameClockB (x y : Clock) : Bool := (x.Epoch == y.Epoch) && decide (x.Pins = y.Pins)
set_option maxRecDepth 100000 in
set_option maxHeartbeats 400000 in
theorem SameClock_impl (w : World) (H K : HClock) (x y : Clock) (h1 : RdClock w w.heap.size H x) (h2 : RdClock w w.heap.size K y) :
    Calls Try.prog 96 #[.agg #[.int .i64 x.Epoch, .slice H.Pins.a H.Pins.len H.Pins.cap], .agg #[.int .i64 y.Epoch, .slice K.Pins.a K.Pins.len K.Pins.cap]] w fun e w' => e = .returned (.bool (sameClockB x y)) ∧ Below w.heap.size w w' := by
  by_cases he : x.Epoch = y.Epoch
  · have he' : (x.Epoch == y.Epoch) = true := by simpa using he
    have HS := Hid.mk_ (show sameClockB x y = decide (x.Pins = y.Pins) by unfold sameClockB; rw [he']; rfl)
    clear he
    go_enter Try.func96, Try.ntmps96
    go_wp2_with fail
    refine (EqualPin_ct _ _ _ x.Pins y.Pins (rd_up h1.Pins (by repeat (first | exact Below.refl _ _ | refine Below.alloc ?_ (by simp <;> omega) _ | refine below_grow_of ?_ (by simp <;> omega) _ _ | refine Below.drew ?_ | refine below_drewN ?_ _))) (rd_up h2.Pins (by repeat (first | exact Below.refl _ _ | refine Below.alloc ?_ (by simp <;> omega) _ | refine below_grow_of ?_ (by simp <;> omega) _ _ | refine Below.drew ?_ | refine below_drewN ?_ _)))).mono ?_
    rintro e w1 ⟨rfl, hb1⟩
    go_wp2_with fail
    go_ret
    exact ⟨ret_bool HS.out.symm, Below.trans (by repeat (first | exact Below.refl _ _ | refine Below.alloc ?_ (by simp <;> omega) _ | refine below_grow_of ?_ (by simp <;> omega) _ _ | refine Below.drew ?_ | refine below_drewN ?_ _)) (hb1.mono (by simp; omega))⟩
  · have he' : (x.Epoch == y.Epoch) = false := by simpa using he
    have HS := Hid.mk_ (show sameClockB x y = false by unfold sameClockB; rw [he']; rfl)
    clear he
    go_enter Try.func96, Try.ntmps96
    go_wp2_with fail
    go_ret
    exact ⟨ret_bool HS.out.symm, by repeat (first | exact Below.refl _ _ | refine Below.alloc ?_ (by simp <;> omega) _ | refine below_grow_of ?_ (by simp <;> omega) _ _ | refine Below.drew ?_ | refine below_drewN ?_ _)⟩

set_option maxRecDepth 100000 in
set_option maxHeartbeats 1000000 in
theorem SameClock_spec (w : World) (H K : HClock) (x y : Clock) (h1 : RdClock w w.heap.size H x) (h2 : RdClock w w.heap.size K y) :
    Calls Try.prog 93 #[.agg #[.int .i64 x.Epoch, .slice H.Pins.a H.Pins.len H.Pins.cap], .agg #[.int .i64 y.Epoch, .slice K.Pins.a K.Pins.len K.Pins.cap]] w fun e w' => e = .returned (.bool (sameClockB x y)) ∧ Below w.heap.size w w' := by
  obtain ⟨⟨A1, n1, c1⟩⟩ := H
  obtain ⟨⟨A2, n2, c2⟩⟩ := K
  obtain ⟨ex, a⟩ := x
  obtain ⟨ey, b⟩ := y
  have r1 : RdL FPin w w.heap.size (.slice A1 n1 c1) a := h1.Pins
  have r2 : RdL FPin w w.heap.size (.slice A2 n2 c2) b := h2.Pins
  obtain ⟨_, _, hv, q1, q2, qx⟩ := id r1
  simp only [Value.slice.injEq] at hv
  obtain ⟨rfl, rfl, rfl⟩ := hv
  have hlt0 : a.length ≤ 9223372036854775807 := by unfold maxLen at q2; omega
  clear q1 q2 qx h1
  obtain ⟨_, _, hv, q1, q2, qx⟩ := id r2
  simp only [Value.slice.injEq] at hv
  obtain ⟨rfl, rfl, rfl⟩ := hv
  clear q1 q2 qx h2
  show Calls Try.prog 93 #[.agg #[.int .i64 ex, .slice A1 a.length c1], .agg #[.int .i64 ey, .slice A2 b.length c2]] w fun e w' => e = .returned (.bool ((ex == ey) && decide (a = b))) ∧ Below w.heap.size w w'
  by_cases he : ex = ey
  case neg =>
    have he' : (ex != ey) = true := by simpa using he
    have HS := Hid.mk_ (show ((ex == ey) && decide (a = b)) = false by rw [show (ex == ey) = false by simpa using he]; rfl)
    clear he
    go_enter Try.func93, Try.ntmps93
    go_wp2_with fail
    go_ret
    exact ⟨ret_bool HS.out.symm, by repeat (first | exact Below.refl _ _ | refine Below.alloc ?_ (by simp <;> omega) _ | refine below_grow_of ?_ (by simp <;> omega) _ _ | refine Below.drew ?_ | refine below_drewN ?_ _)⟩
  have HS := Hid.mk_ (show ((ex == ey) && decide (a = b)) = decide (a = b) by rw [show (ex == ey) = true by simpa using he]; rfl)
  have he' : (ex != ey) = false := by simpa using he
  clear he
  by_cases hl : a.length = b.length
  case neg =>
    have HN := Hid.mk_ (show decide (a = b) = false from decide_eq_false (fun e => hl (by rw [e])))
    have hl' : ((a.length : Int) != (b.length : Int)) = true := by simp; omega
    go_enter Try.func93, Try.ntmps93
    go_wp2_with fail
    go_ret
    exact ⟨ret_bool (by rw [HS.out, HN.out]), by repeat (first | exact Below.refl _ _ | refine Below.alloc ?_ (by simp <;> omega) _ | refine below_grow_of ?_ (by simp <;> omega) _ _ | refine Below.drew ?_ | refine below_drewN ?_ _)⟩
  have HL := Hid.mk_ hl
  rw [← hl] at r2 ⊢
  clear hl
  go_enter Try.func93, Try.ntmps93
  go_wp2_with fail
  go_loopw [5] (fun i wr => ∃ k : Nat, k ≤ a.length ∧ i = .int .i64 k ∧ Hid (a.take k = b.take k) ∧ Below w.heap.size w wr ∧ wr.cell? ⟨w.heap.size, 1, none⟩ = some (.slice A1 a.length c1) ∧ wr.cell? ⟨w.heap.size + 1, 1, none⟩ = some (.slice A2 a.length c2)) (fun i _ => a.length - (intOf i).toNat)
  case atStart => exact ⟨0, Nat.zero_le _, rfl, rfl, by repeat (first | exact Below.refl _ _ | refine Below.alloc ?_ (by simp <;> omega) _ | refine below_grow_of ?_ (by simp <;> omega) _ _ | refine Below.drew ?_ | refine below_drewN ?_ _), by simp [go_sem], by simp [go_sem]⟩
  case round =>
    obtain ⟨i, hi, rfl, HT, hb, pc1, pc2⟩ := hrel
    by_cases hlt : i < a.length
    · have hlt2 : i < b.length := by rw [← HL.out]; exact hlt
      obtain ⟨g1, o1, cap1, he1, hg1, _, _, hc1⟩ := (r1.below hb).at_ (List.getElem?_eq_getElem hlt)
      obtain ⟨g2, o2, cap2, he2, hg2, _, _, hc2⟩ := (r2.below hb).at_ (List.getElem?_eq_getElem hlt2)
      injection he1 with e11 e12 e13
      injection he2 with e21 e22 e23
      clear e12 e22
      subst e11 e13 e21 e23
      have p0 : wr.cell? ⟨g1, o1 + i * 4, none⟩ = some (.bool a[i].On) := hc1 0 _ rfl
      have p1 : wr.cell? ⟨g1, o1 + i * 4 + 1, none⟩ = some (.int .i64 a[i].Epoch) := hc1 1 _ rfl
      have p2 : wr.cell? ⟨g1, o1 + i * 4 + 2, none⟩ = some (.bool a[i].Marked) := hc1 2 _ rfl
      have p3 : wr.cell? ⟨g1, o1 + i * 4 + 3, none⟩ = some (.int .i64 a[i].Seen) := hc1 3 _ rfl
      have s0 : wr.cell? ⟨g2, o2 + i * 4, none⟩ = some (.bool b[i].On) := hc2 0 _ rfl
      have s1 : wr.cell? ⟨g2, o2 + i * 4 + 1, none⟩ = some (.int .i64 b[i].Epoch) := hc2 1 _ rfl
      have s2 : wr.cell? ⟨g2, o2 + i * 4 + 2, none⟩ = some (.bool b[i].Marked) := hc2 2 _ rfl
      have s3 : wr.cell? ⟨g2, o2 + i * 4 + 3, none⟩ = some (.int .i64 b[i].Seen) := hc2 3 _ rfl
      clear hc1 hc2 r1 r2
      have HX := Hid.mk_ (show ∀ (hh : a[i] = b[i]), a.take (i + 1) = b.take (i + 1) from fun hh => eq_take_step hlt hlt2 HT.out hh)
      have HY := Hid.mk_ (show ∀ (hh : a[i] ≠ b[i]), decide (a = b) = false from fun hh => decide_eq_false (ne_at hlt hlt2 hh))
      generalize a[i] = u at *
      generalize b[i] = v at *
      have hq := neqRunPin u v
      by_cases hh : u = v
      · have HE := Hid.mk_ (HX.out hh)
        rw [decide_eq_true hh] at hq
        clear hh
        go_wp2
        go_region
        all_goals go_wp2
        all_goals go_roundw
        case rel => exact ⟨i + 1, by omega, by go_num, HE, by first | exact hb | exact hb.drew | exact hb.drew.drew, by first | exact pc1 | simpa using pc1, by first | exact pc2 | simpa using pc2⟩
        case measure => simp [intOf]; omega
      · have HN := Hid.mk_ (HY.out hh)
        rw [decide_eq_false hh] at hq
        clear hh
        go_wp2
        go_region
        all_goals go_wp2
        all_goals go_ret
        all_goals exact ⟨ret_bool (by rw [HS.out, HN.out]), by first | exact hb | exact hb.drew | exact hb.drew.drew⟩
    · go_wp2
      go_ret
      obtain rfl : i = a.length := by omega
      exact ⟨ret_bool (by rw [HS.out]; exact (decide_eq_true (eq_take_end HL.out HT.out)).symm), hb⟩

set_option maxHeartbeats 1000000 in
theorem SameLimbo_impl (w : World) (v1 v2 : Value) (t1 t2 : List SV) (a b : List (List LRow)) (h1 : RdLL FLRow w w.heap.size v1 t1 a) (h2 : RdLL FLRow w w.heap.size v2 t2 b) :
    Calls Try.prog 97 #[v1, v2] w fun e w' => e = .returned (.bool (decide (a = b))) ∧ Below w.heap.size w w' := by
  go_enter Try.func97, Try.ntmps97
  go_wp2_with fail
  refine (EqualFuncLList_ct _ _ _ t1 t2 a b h1 h2).mono ?_
  rintro e w1 ⟨rfl, hb1⟩
  go_wp2
  go_ret
  exact ⟨rfl, hb1⟩

set_option maxRecDepth 100000 in
set_option maxHeartbeats 2000000 in
theorem SameLimbo_spec (w : World) (v1 v2 : Value) (t1 t2 : List SV) (a b : List (List LRow)) (h1 : RdLL FLRow w w.heap.size v1 t1 a) (h2 : RdLL FLRow w w.heap.size v2 t2 b) :
    Calls Try.prog 94 #[v1, v2] w fun e w' => e = .returned (.bool (decide (a = b))) ∧ Below w.heap.size w w' := by
  obtain ⟨A1, c1, hv1, _⟩ := id h1.outer
  obtain ⟨A2, c2, hv2, _⟩ := id h2.outer
  subst hv1 hv2
  obtain ⟨en1, hcap1, hmx1⟩ := h1.len'
  obtain ⟨en2, _, hmx2⟩ := h2.len'
  have hlt1 : a.length ≤ 9223372036854775807 := by unfold maxLen at hmx1; omega
  have hlt2 : b.length ≤ 9223372036854775807 := by unfold maxLen at hmx2; omega
  rw [en1] at h1 ⊢
  rw [en2] at h2 ⊢
  clear en1 hcap1 hmx1 en2 hmx2
  by_cases hl : a.length = b.length
  case neg =>
    have HN := Hid.mk_ (show decide (a = b) = false from decide_eq_false (fun e => hl (by rw [e])))
    have hl' : ((a.length : Int) != (b.length : Int)) = true := by simp; omega
    go_enter Try.func94, Try.ntmps94
    go_wp2
    go_ret
    exact ⟨ret_bool HN.out.symm, Below.refl _ _⟩
  have HL := Hid.mk_ hl
  clear hlt2
  rw [← hl] at h2 ⊢
  clear hl
  go_enter Try.func94, Try.ntmps94
  go_wp2
  go_loopw [5, 6] (fun i _ wr => ∃ k : Nat, k ≤ a.length ∧ i = .int .i64 k ∧ Hid (a.take k = b.take k) ∧ Below w.heap.size w wr) (fun i _ _ => a.length - (intOf i).toNat)
  case atStart => exact ⟨0, Nat.zero_le _, rfl, rfl, Below.refl _ _⟩
  case round =>
    obtain ⟨i, hi, rfl, HT, hb⟩ := hrel
    by_cases hlt : i < a.length
    · have hlt2 : i < b.length := by rw [← HL.out]; exact hlt
      obtain ⟨g1, o1, B1, d1, e1, hg1, p0, r1⟩ := h1.row hb hlt
      obtain ⟨g2, o2, B2, d2, e2, hg2, p1, r2⟩ := h2.row hb hlt2
      subst e1 e2
      have HE0 := Hid.mk_ (fun he : a[i] = b[i] => eq_take_step hlt hlt2 HT.out he)
      have HN0 := Hid.mk_ (fun he : a[i] ≠ b[i] => (show decide (a = b) = false from decide_eq_false (ne_at hlt hlt2 he)))
      generalize a[i] = x at p0 r1 HE0 HN0
      generalize b[i] = y at p1 r2 HE0 HN0
      have hx0 : x.length ≤ 9223372036854775807 := by
        obtain ⟨_, _, _, u1, u2, _⟩ := id r1
        unfold maxLen at u2; omega
      clear h1 h2 hlt2
      by_cases hl : x.length = y.length
      case neg =>
        have HN := Hid.mk_ (HN0.out (fun e => hl (by rw [e])))
        have hl' : ((x.length : Int) != (y.length : Int)) = true := by simp; omega
        go_wp2
        go_region
        all_goals go_wp2
        all_goals go_ret
        all_goals exact ⟨ret_bool HN.out.symm, by first | exact hb | exact hb.drew | exact hb.drew.drew⟩
      have HLx := Hid.mk_ hl
      rw [← hl] at r2 p1
      have hl' : ((x.length : Int) != (x.length : Int)) = false := by simp
      clear hl
      go_wp2
      go_region
      all_goals go_wp2
      obtain ⟨wo, rfl⟩ : ∃ wo : World, wo = wr := ⟨_, rfl⟩
      go_loopw [6] (fun j wq => ∃ k : Nat, k ≤ x.length ∧ j = .int .i64 k ∧ Hid (x.take k = y.take k) ∧ Below w.heap.size w wq ∧ wq.cell? ⟨g1, o1 + i, none⟩ = some (.slice B1 x.length d1) ∧ wq.cell? ⟨g2, o2 + i, none⟩ = some (.slice B2 x.length d2)) (fun j _ => x.length - (intOf j).toNat)
      case atStart => exact ⟨0, Nat.zero_le _, rfl, rfl, (by first | exact hb | exact hb.drew | exact hb.drew.drew), (by first | exact p0 | simpa [go_sem] using p0), (by first | exact p1 | simpa [go_sem] using p1)⟩
      case round =>
        obtain ⟨j, hj, rfl, HTj, hbq, s0, s1⟩ := hrel
        clear p0 p1 hb
        by_cases hlj : j < x.length
        · have hlj2 : j < y.length := by rw [← HLx.out]; exact hlj
          obtain ⟨ge1, oe1, cap1, he1, hge1, _, _, hc1⟩ := (r1.below hbq).at_ (List.getElem?_eq_getElem hlj)
          obtain ⟨ge2, oe2, cap2, he2, hge2, _, _, hc2⟩ := (r2.below hbq).at_ (List.getElem?_eq_getElem hlj2)
          injection he1 with e11 e12 e13
          injection he2 with e21 e22 e23
          clear e12 e22
          subst e11 e13 e21 e23
          have k0 : wr.cell? ⟨ge1, oe1 + j * 2, none⟩ = some (.int .i64 x[j].Handle) := hc1 0 _ rfl
          have k1 : wr.cell? ⟨ge1, oe1 + j * 2 + 1, none⟩ = some (.int .i64 x[j].Epoch) := hc1 1 _ rfl
          have q0 : wr.cell? ⟨ge2, oe2 + j * 2, none⟩ = some (.int .i64 y[j].Handle) := hc2 0 _ rfl
          have q1 : wr.cell? ⟨ge2, oe2 + j * 2 + 1, none⟩ = some (.int .i64 y[j].Epoch) := hc2 1 _ rfl
          clear hc1 hc2 r1 r2
          by_cases hh : x[j].Handle = y[j].Handle
          case neg =>
            have HN := Hid.mk_ (HN0.out (ne_at hlj hlj2 (fun e => hh (by rw [e]))))
            have hh' : (x[j].Handle == y[j].Handle) = false := by simpa using hh
            clear hh
            go_wp2
            go_region
            all_goals go_wp2
            all_goals go_ret
            all_goals exact ⟨ret_bool HN.out.symm, by first | exact hbq | exact hbq.drew | exact hbq.drew.drew⟩
          by_cases he : x[j].Epoch = y[j].Epoch
          case neg =>
            have HN := Hid.mk_ (HN0.out (ne_at hlj hlj2 (fun e => he (by rw [e]))))
            have he' : (x[j].Epoch == y[j].Epoch) = false := by simpa using he
            clear he
            go_wp2
            go_region
            all_goals go_wp2
            all_goals go_ret
            all_goals exact ⟨ret_bool HN.out.symm, by first | exact hbq | exact hbq.drew | exact hbq.drew.drew⟩
          have HE := Hid.mk_ (eq_take_step hlj hlj2 HTj.out (show x[j] = y[j] from by
            have ee : ∀ a b : LRow, a.Handle = b.Handle → a.Epoch = b.Epoch → a = b := fun a b h1 h2 => by cases a; cases b; simp_all
            exact ee _ _ hh he))
          rw [← hh] at q0
          rw [← he] at q1
          clear hh he
          go_wp2
          go_region
          all_goals go_wp2
          all_goals go_roundw
          case rel => exact ⟨j + 1, by omega, by go_num, HE, (by first | exact hbq | exact hbq.drew | exact hbq.drew.drew), (by first | exact s0 | simpa [go_sem] using s0), (by first | exact s1 | simpa [go_sem] using s1)⟩
          case measure => simp [intOf]; omega
        · go_wp2
          go_roundw
          case rel =>
            obtain rfl : j = x.length := by omega
            exact ⟨i + 1, by omega, by go_num, HE0.out (eq_take_end HLx.out HTj.out), hbq⟩
          case measure => simp [intOf]; omega
    · go_wp2
      go_ret
      obtain rfl : i = a.length := by omega
      exact ⟨ret_bool (decide_eq_true (eq_take_end HL.out HT.out)).symm, hb⟩

set_option maxRecDepth 100000 in
set_option maxHeartbeats 1000000 in
theorem SameBytes_spec (w : World) (v1 v2 : Value) (x y : List Int) (h1 : RdL FI w w.heap.size v1 x) (h2 : RdL FI w w.heap.size v2 y) :
    Calls Try.prog 53 #[v1, v2] w fun e w' => e = .returned (.bool (decide (x = y))) ∧ Below w.heap.size w w' := by
  obtain ⟨A1, c1, hv1, q1, q2, _⟩ := id h1
  obtain ⟨A2, c2, hv2, _, _, _⟩ := id h2
  have hlt0 : x.length ≤ 9223372036854775807 := by unfold maxLen at q2; omega
  subst hv1 hv2
  clear q1 q2
  by_cases hl : x.length = y.length
  case neg =>
    have HN := Hid.mk_ (show decide (x = y) = false from decide_eq_false (fun e => hl (by rw [e])))
    have hl' : ((x.length : Int) != (y.length : Int)) = true := by simp; omega
    go_enter Try.func53, Try.ntmps53
    go_wp2
    go_ret
    exact ⟨ret_bool HN.out.symm, Below.refl _ _⟩
  have HL := Hid.mk_ hl
  rw [← hl] at h2 ⊢
  clear hl
  go_enter Try.func53, Try.ntmps53
  go_wp2
  go_loopw [5] (fun i wr => ∃ k : Nat, k ≤ x.length ∧ i = .int .i64 k ∧ Hid (x.take k = y.take k) ∧ Below w.heap.size w wr) (fun i _ => x.length - (intOf i).toNat)
  case atStart => exact ⟨0, Nat.zero_le _, rfl, rfl, Below.refl _ _⟩
  case round =>
    obtain ⟨i, hi, rfl, HT, hb⟩ := hrel
    by_cases hlt : i < x.length
    · have hlt2 : i < y.length := by rw [← HL.out]; exact hlt
      obtain ⟨g1, o1, cap1, he1, hg1, _, _, hc1⟩ := (h1.below hb).at_ (List.getElem?_eq_getElem hlt)
      obtain ⟨g2, o2, cap2, he2, hg2, _, _, hc2⟩ := (h2.below hb).at_ (List.getElem?_eq_getElem hlt2)
      injection he1 with e11 e12 e13
      injection he2 with e21 e22 e23
      clear e12 e22
      subst e11 e13 e21 e23
      have p0 : wr.cell? ⟨g1, o1 + i, none⟩ = some (.int .i64 x[i]) := by simpa [FI] using hc1 0 _ rfl
      have r0 : wr.cell? ⟨g2, o2 + i, none⟩ = some (.int .i64 y[i]) := by simpa [FI] using hc2 0 _ rfl
      clear hc1 hc2 h1 h2
      have HX := Hid.mk_ (show ∀ (hh : x[i] = y[i]), x.take (i + 1) = y.take (i + 1) from fun hh => eq_take_step hlt hlt2 HT.out hh)
      have HY := Hid.mk_ (show ∀ (hh : x[i] ≠ y[i]), decide (x = y) = false from fun hh => decide_eq_false (ne_at hlt hlt2 hh))
      generalize x[i] = a at *
      generalize y[i] = b at *
      by_cases hh : a = b
      · have HE := Hid.mk_ (HX.out hh)
        have hq : (a != b) = false := by simp [hh]
        clear hh
        go_wp2
        go_region
        all_goals go_wp2
        all_goals go_roundw
        case rel => exact ⟨i + 1, by omega, by go_num, HE, by first | exact hb | exact hb.drew | exact hb.drew.drew | exact hb.drew.drew.drew⟩
        case measure => simp [intOf]; omega
      · have HN := Hid.mk_ (HY.out hh)
        have hq : (a != b) = true := by simp [hh]
        clear hh
        go_wp2
        go_region
        all_goals go_wp2
        all_goals go_ret
        all_goals exact ⟨ret_bool HN.out.symm, by first | exact hb | exact hb.drew | exact hb.drew.drew | exact hb.drew.drew.drew⟩
    · go_wp2
      go_ret
      obtain rfl : i = x.length := by omega
      exact ⟨ret_bool (decide_eq_true (eq_take_end HL.out HT.out)).symm, hb⟩
end Go.Proofs.Ytdepckmjgpkjmaa
