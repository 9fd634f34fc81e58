/-
  Limbo lists compared by the program and by the reference.
-/
import Derived.Test.YtobcdcfbhfoheaaT
import Derived.Test.YtobcdcfbhfoheaaL
import Derived.Deep.QuietTactic
import Derived.BigQuiet
import Derived.Deep.LoopGhost
import Derived.Deep.RegionHeld3
import Derived.Test.YtobcdcfbhfoheaaN
import Derived.Test.YtobcdcfbhfoheaaA
import Derived.WalkSpells
import Derived.Laws.Cover3
import Derived.Test.YtobcdcfbhfoheaaG
namespace Go.Proofs.Ytobcdcfbhfoheaa
open Go.RowKit

instance : DecidableEq LRow := fun a b => decidable_of_iff (a.Handle = b.Handle ∧ a.Epoch = b.Epoch) (by cases a; cases b; simp)
theorem eq_take_end {α : Type} {x y : List α} (hl : x.length = y.length) (h : x.take x.length = y.take x.length) : x = y := by
  rw [List.take_length, hl, List.take_length] at h
  exact h
theorem eq_take_step {α : Type} {x y : List α} {i : Nat} (hx : i < x.length) (hy : i < y.length) (h : x.take i = y.take i) (he : x[i] = y[i]) : x.take (i + 1) = y.take (i + 1) := by
  rw [List.take_succ_eq_append_getElem hx, List.take_succ_eq_append_getElem hy, h, he]
theorem ne_at {α : Type} {x y : List α} {i : Nat} (hx : i < x.length) (hy : i < y.length) (he : x[i] ≠ y[i]) : x ≠ y := by
  rintro rfl
  exact he rfl

set_option maxRecDepth 100000 in
set_option maxHeartbeats 1000000 in
theorem EqualLRow_ct (w : World) (v1 v2 : Value) (x y : List LRow) (h1 : RdL FLRow w w.heap.size v1 x) (h2 : RdL FLRow w w.heap.size v2 y) :
    Calls Try.prog 69 #[v1, v2] w fun e w' => e = .returned (.bool (decide (x = y))) ∧ Below w.heap.size w w' := by
  obtain ⟨A1, c1, hv1, q1, q2, _⟩ := id h1
  obtain ⟨A2, c2, hv2, _, _, _⟩ := id h2
  have hlt0 : x.length ≤ 9223372036854775807 := by unfold maxLen at q2; omega
  subst hv1 hv2
  clear q1 q2
  by_cases hl : x.length = y.length
  case neg =>
    have HN := Hid.mk_ (show decide (x = y) = false from decide_eq_false (fun e => hl (by rw [e])))
    have hl' : ((x.length : Int) != (y.length : Int)) = true := by simp; omega
    go_enter Try.func69, Try.ntmps69
    go_wp2
    go_ret
    exact ⟨ret_bool HN.out.symm, Below.refl _ _⟩
  have HL := Hid.mk_ hl
  rw [← hl] at h2 ⊢
  clear hl
  go_enter Try.func69, Try.ntmps69
  go_wp2
  go_loopw [5, 13] (fun _ i wr => ∃ k : Nat, k ≤ x.length ∧ i = .int .i64 k ∧ Hid (x.take k = y.take k) ∧ Below w.heap.size w wr) (fun _ i _ => x.length - (intOf i).toNat)
  case atStart => exact ⟨0, Nat.zero_le _, rfl, rfl, Below.refl _ _⟩
  case round =>
    obtain ⟨i, hi, rfl, HT, hb⟩ := hrel
    by_cases hlt : i < x.length
    · have hlt2 : i < y.length := by rw [← HL.out]; exact hlt
      obtain ⟨g1, o1, cap1, he1, hg1, _, _, hc1⟩ := (h1.below hb).at_ (List.getElem?_eq_getElem hlt)
      obtain ⟨g2, o2, cap2, he2, hg2, _, _, hc2⟩ := (h2.below hb).at_ (List.getElem?_eq_getElem hlt2)
      injection he1 with e11 e12 e13
      injection he2 with e21 e22 e23
      clear e12 e22
      subst e11 e13 e21 e23
      have p0 : wr.cell? ⟨g1, o1 + i * 2, none⟩ = some (.int .i64 x[i].Handle) := hc1 0 _ rfl
      have p1 : wr.cell? ⟨g1, o1 + i * 2 + 1, none⟩ = some (.int .i64 x[i].Epoch) := hc1 1 _ rfl
      have r0 : wr.cell? ⟨g2, o2 + i * 2, none⟩ = some (.int .i64 y[i].Handle) := hc2 0 _ rfl
      have r1 : wr.cell? ⟨g2, o2 + i * 2 + 1, none⟩ = some (.int .i64 y[i].Epoch) := hc2 1 _ rfl
      clear hc1 hc2 h1 h2
      by_cases hh : x[i].Handle = y[i].Handle
      case neg =>
        have HN := Hid.mk_ (show decide (x = y) = false from decide_eq_false (ne_at hlt hlt2 (fun e => hh (by rw [e]))))
        have hh' : (x[i].Handle == y[i].Handle) = false := by simpa using hh
        clear hh
        go_wp2
        go_region
        all_goals go_wp2
        all_goals go_ret
        all_goals exact ⟨ret_bool HN.out.symm, by first | exact hb | exact hb.drew | exact hb.drew.drew⟩
      by_cases he : x[i].Epoch = y[i].Epoch
      case neg =>
        have HN := Hid.mk_ (show decide (x = y) = false from decide_eq_false (ne_at hlt hlt2 (fun e => he (by rw [e]))))
        have he' : (x[i].Epoch == y[i].Epoch) = false := by simpa using he
        clear he
        go_wp2
        go_region
        all_goals go_wp2
        all_goals go_ret
        all_goals exact ⟨ret_bool HN.out.symm, by first | exact hb | exact hb.drew | exact hb.drew.drew⟩
      have HE := Hid.mk_ (eq_take_step hlt hlt2 HT.out (show x[i] = y[i] from by
        have ee : ∀ a b : LRow, a.Handle = b.Handle → a.Epoch = b.Epoch → a = b := fun a b h1 h2 => by cases a; cases b; simp_all
        exact ee _ _ hh he))
      rw [← hh] at r0
      rw [← he] at r1
      clear hh he
      go_wp2
      go_region
      all_goals go_wp2
      all_goals go_roundw
      case rel => exact ⟨i + 1, by omega, by go_num, HE, by first | exact hb | exact hb.drew | exact hb.drew.drew⟩
      case measure => simp [intOf]; omega
    · go_wp2
      go_ret
      obtain rfl : i = x.length := by omega
      exact ⟨ret_bool (decide_eq_true (eq_take_end HL.out HT.out)).symm, hb⟩

set_option maxHeartbeats 1000000 in
theorem SameLimbo1_impl (w : World) (A1 A2 : Option Addr) (c1 c2 : Nat) (x y : List LRow) (h1 : RdL FLRow w w.heap.size (.slice A1 x.length c1) x) (h2 : RdL FLRow w w.heap.size (.slice A2 y.length c2) y) :
    Calls Try.prog 68 #[.agg #[.slice A1 x.length c1], .agg #[.slice A2 y.length c2]] w fun e w' => e = .returned (.bool (decide (x = y))) ∧ Below w.heap.size w w' := by
  have hB : Below w.heap.size w ((w.alloc (.cells #[.slice A1 x.length c1] 60)).alloc (.cells #[.slice A2 y.length c2] 60)) := ((Below.refl _ _).alloc (Nat.le_refl _) _).alloc (by simp) _
  go_enter Try.func68, Try.ntmps68
  go_wp2_with fail
  refine (EqualLRow_ct _ _ _ x y (rd_up h1 hB) (rd_up h2 hB)).mono ?_
  rintro e w1 ⟨rfl, hb1⟩
  go_wp2
  go_ret
  exact ⟨rfl, hB.trans (hb1.mono hB.size)⟩
set_option maxRecDepth 100000 in
set_option maxHeartbeats 1000000 in
theorem EqualFuncLL_ct (w : World) (v1 v2 : Value) (t1 t2 : List SV) (a b : List (List LRow)) (h1 : RdLL FLRow w w.heap.size v1 t1 a) (h2 : RdLL FLRow w w.heap.size v2 t2 b) :
    Calls Try.prog 67 #[v1, v2, .func (.func 68) #[] #[]] w fun e w' => e = .returned (.bool (decide (a = b))) ∧ Below w.heap.size w w' := by
  obtain ⟨A1, c1, hv1, _⟩ := id h1.outer
  obtain ⟨A2, c2, hv2, _⟩ := id h2.outer
  subst hv1 hv2
  obtain ⟨en1, hcap1, hmx1⟩ := h1.len'
  obtain ⟨en2, _, hmx2⟩ := h2.len'
  have hlt1 : a.length ≤ 9223372036854775807 := by unfold maxLen at hmx1; omega
  have hlt2 : b.length ≤ 9223372036854775807 := by unfold maxLen at hmx2; omega
  rw [en1] at h1 ⊢
  rw [en2] at h2 ⊢
  clear en1 hcap1 hmx1 en2 hmx2
  by_cases hl : a.length = b.length
  case neg =>
    have HN := Hid.mk_ (show decide (a = b) = false from decide_eq_false (fun e => hl (by rw [e])))
    have hl' : ((a.length : Int) != (b.length : Int)) = true := by simp; omega
    go_enter Try.func67, Try.ntmps67
    go_wp2
    go_ret
    exact ⟨ret_bool HN.out.symm, Below.refl _ _⟩
  have HL := Hid.mk_ hl
  clear hlt2
  rw [← hl] at h2 ⊢
  clear hl
  go_enter Try.func67, Try.ntmps67
  go_wp2
  go_loopw [7, 8, 9, 17] (fun _ _ _ i wr => ∃ k : Nat, k ≤ a.length ∧ i = .int .i64 k ∧ Hid (a.take k = b.take k) ∧ Below w.heap.size w wr) (fun _ _ _ i _ => a.length - (intOf i).toNat)
  case atStart => exact ⟨0, Nat.zero_le _, rfl, rfl, Below.refl _ _⟩
  case round =>
    obtain ⟨i, hi, rfl, HT, hb⟩ := hrel
    by_cases hlt : i < a.length
    · have hlt2 : i < b.length := by rw [← HL.out]; exact hlt
      obtain ⟨g1, o1, B1, d1, e1, hg1, p0, r1⟩ := h1.row hb hlt
      obtain ⟨g2, o2, B2, d2, e2, hg2, p1, r2⟩ := h2.row hb hlt2
      subst e1 e2
      have z2 : g2 < wr.heap.size := Nat.lt_of_lt_of_le hg2 hb.size
      clear h1 h2
      go_wp2_with fail
      refine (SameLimbo1_impl _ B1 B2 d1 d2 a[i] b[i] (rd_up r1 ?hq1) (rd_up r2 ?hq2)).mono ?_
      case hq1 => exact (hb.alloc hb.size _).alloc (by have := hb.size; simp; omega) _
      case hq2 => exact (hb.alloc hb.size _).alloc (by have := hb.size; simp; omega) _
      rintro e w1 ⟨rfl, hb1⟩
      have hb2 : Below w.heap.size w w1 := Below.trans ((hb.alloc hb.size _).alloc (by have := hb.size; simp; omega) _) (hb1.mono (by have := hb.size; simp; omega))
      by_cases he : a[i] = b[i]
      · have HE := Hid.mk_ (eq_take_step hlt hlt2 HT.out he)
        rw [decide_eq_true he]
        clear he
        go_wp2
        go_roundw
        case rel => exact ⟨i + 1, by omega, by go_num, HE, hb2⟩
        case measure => simp [intOf]; omega
      · have HN := Hid.mk_ (show decide (a = b) = false from decide_eq_false (ne_at hlt hlt2 he))
        rw [decide_eq_false he]
        clear he
        go_wp2
        go_ret
        exact ⟨ret_bool HN.out.symm, hb2⟩
    · go_wp2
      go_ret
      obtain rfl : i = a.length := by omega
      exact ⟨ret_bool (decide_eq_true (eq_take_end HL.out HT.out)).symm, hb⟩
set_option maxHeartbeats 1000000 in
theorem SameLimbo_impl (w : World) (v1 v2 : Value) (t1 t2 : List SV) (a b : List (List LRow)) (h1 : RdLL FLRow w w.heap.size v1 t1 a) (h2 : RdLL FLRow w w.heap.size v2 t2 b) :
    Calls Try.prog 37 #[v1, v2] w fun e w' => e = .returned (.bool (decide (a = b))) ∧ Below w.heap.size w w' := by
  go_enter Try.func37, Try.ntmps37
  go_wp2_with fail
  refine (EqualFuncLL_ct _ _ _ t1 t2 a b h1 h2).mono ?_
  rintro e w1 ⟨rfl, hb1⟩
  go_wp2
  go_ret
  exact ⟨rfl, hb1⟩

set_option maxRecDepth 100000 in
set_option maxHeartbeats 2000000 in
theorem SameLimbo_spec (w : World) (v1 v2 : Value) (t1 t2 : List SV) (a b : List (List LRow)) (h1 : RdLL FLRow w w.heap.size v1 t1 a) (h2 : RdLL FLRow w w.heap.size v2 t2 b) :
    Calls Try.prog 36 #[v1, v2] w fun e w' => e = .returned (.bool (decide (a = b))) ∧ Below w.heap.size w w' := by
  obtain ⟨A1, c1, hv1, _⟩ := id h1.outer
  obtain ⟨A2, c2, hv2, _⟩ := id h2.outer
  subst hv1 hv2
  obtain ⟨en1, hcap1, hmx1⟩ := h1.len'
  obtain ⟨en2, _, hmx2⟩ := h2.len'
  have hlt1 : a.length ≤ 9223372036854775807 := by unfold maxLen at hmx1; omega
  have hlt2 : b.length ≤ 9223372036854775807 := by unfold maxLen at hmx2; omega
  rw [en1] at h1 ⊢
  rw [en2] at h2 ⊢
  clear en1 hcap1 hmx1 en2 hmx2
  by_cases hl : a.length = b.length
  case neg =>
    have HN := Hid.mk_ (show decide (a = b) = false from decide_eq_false (fun e => hl (by rw [e])))
    have hl' : ((a.length : Int) != (b.length : Int)) = true := by simp; omega
    go_enter Try.func36, Try.ntmps36
    go_wp2
    go_ret
    exact ⟨ret_bool HN.out.symm, Below.refl _ _⟩
  have HL := Hid.mk_ hl
  clear hlt2
  rw [← hl] at h2 ⊢
  clear hl
  go_enter Try.func36, Try.ntmps36
  go_wp2
  go_loopw [5, 6] (fun i _ wr => ∃ k : Nat, k ≤ a.length ∧ i = .int .i64 k ∧ Hid (a.take k = b.take k) ∧ Below w.heap.size w wr) (fun i _ _ => a.length - (intOf i).toNat)
  case atStart => exact ⟨0, Nat.zero_le _, rfl, rfl, Below.refl _ _⟩
  case round =>
    obtain ⟨i, hi, rfl, HT, hb⟩ := hrel
    by_cases hlt : i < a.length
    · have hlt2 : i < b.length := by rw [← HL.out]; exact hlt
      obtain ⟨g1, o1, B1, d1, e1, hg1, p0, r1⟩ := h1.row hb hlt
      obtain ⟨g2, o2, B2, d2, e2, hg2, p1, r2⟩ := h2.row hb hlt2
      subst e1 e2
      have HE0 := Hid.mk_ (fun he : a[i] = b[i] => eq_take_step hlt hlt2 HT.out he)
      have HN0 := Hid.mk_ (fun he : a[i] ≠ b[i] => (show decide (a = b) = false from decide_eq_false (ne_at hlt hlt2 he)))
      generalize a[i] = x at p0 r1 HE0 HN0
      generalize b[i] = y at p1 r2 HE0 HN0
      have hx0 : x.length ≤ 9223372036854775807 := by
        obtain ⟨_, _, _, u1, u2, _⟩ := id r1
        unfold maxLen at u2; omega
      clear h1 h2 hlt2
      by_cases hl : x.length = y.length
      case neg =>
        have HN := Hid.mk_ (HN0.out (fun e => hl (by rw [e])))
        have hl' : ((x.length : Int) != (y.length : Int)) = true := by simp; omega
        go_wp2
        go_region
        all_goals go_wp2
        all_goals go_ret
        all_goals exact ⟨ret_bool HN.out.symm, by first | exact hb | exact hb.drew | exact hb.drew.drew⟩
      have HLx := Hid.mk_ hl
      rw [← hl] at r2 p1
      have hl' : ((x.length : Int) != (x.length : Int)) = false := by simp
      clear hl
      go_wp2
      go_region
      all_goals go_wp2
      obtain ⟨wo, rfl⟩ : ∃ wo : World, wo = wr := ⟨_, rfl⟩
      go_loopw [6] (fun j wq => ∃ k : Nat, k ≤ x.length ∧ j = .int .i64 k ∧ Hid (x.take k = y.take k) ∧ Below w.heap.size w wq ∧ wq.cell? ⟨g1, o1 + i, none⟩ = some (.slice B1 x.length d1) ∧ wq.cell? ⟨g2, o2 + i, none⟩ = some (.slice B2 x.length d2)) (fun j _ => x.length - (intOf j).toNat)
      case atStart => exact ⟨0, Nat.zero_le _, rfl, rfl, (by first | exact hb | exact hb.drew | exact hb.drew.drew), (by first | exact p0 | simpa [go_sem] using p0), (by first | exact p1 | simpa [go_sem] using p1)⟩
      case round =>
        obtain ⟨j, hj, rfl, HTj, hbq, s0, s1⟩ := hrel
        clear p0 p1 hb
        by_cases hlj : j < x.length
        · have hlj2 : j < y.length := by rw [← HLx.out]; exact hlj
          obtain ⟨ge1, oe1, cap1, he1, hge1, _, _, hc1⟩ := (r1.below hbq).at_ (List.getElem?_eq_getElem hlj)
          obtain ⟨ge2, oe2, cap2, he2, hge2, _, _, hc2⟩ := (r2.below hbq).at_ (List.getElem?_eq_getElem hlj2)
          injection he1 with e11 e12 e13
          injection he2 with e21 e22 e23
          clear e12 e22
          subst e11 e13 e21 e23
          have k0 : wr.cell? ⟨ge1, oe1 + j * 2, none⟩ = some (.int .i64 x[j].Handle) := hc1 0 _ rfl
          have k1 : wr.cell? ⟨ge1, oe1 + j * 2 + 1, none⟩ = some (.int .i64 x[j].Epoch) := hc1 1 _ rfl
          have q0 : wr.cell? ⟨ge2, oe2 + j * 2, none⟩ = some (.int .i64 y[j].Handle) := hc2 0 _ rfl
          have q1 : wr.cell? ⟨ge2, oe2 + j * 2 + 1, none⟩ = some (.int .i64 y[j].Epoch) := hc2 1 _ rfl
          clear hc1 hc2 r1 r2
          by_cases hh : x[j].Handle = y[j].Handle
          case neg =>
            have HN := Hid.mk_ (HN0.out (ne_at hlj hlj2 (fun e => hh (by rw [e]))))
            have hh' : (x[j].Handle == y[j].Handle) = false := by simpa using hh
            clear hh
            go_wp2
            go_region
            all_goals go_wp2
            all_goals go_ret
            all_goals exact ⟨ret_bool HN.out.symm, by first | exact hbq | exact hbq.drew | exact hbq.drew.drew⟩
          by_cases he : x[j].Epoch = y[j].Epoch
          case neg =>
            have HN := Hid.mk_ (HN0.out (ne_at hlj hlj2 (fun e => he (by rw [e]))))
            have he' : (x[j].Epoch == y[j].Epoch) = false := by simpa using he
            clear he
            go_wp2
            go_region
            all_goals go_wp2
            all_goals go_ret
            all_goals exact ⟨ret_bool HN.out.symm, by first | exact hbq | exact hbq.drew | exact hbq.drew.drew⟩
          have HE := Hid.mk_ (eq_take_step hlj hlj2 HTj.out (show x[j] = y[j] from by
            have ee : ∀ a b : LRow, a.Handle = b.Handle → a.Epoch = b.Epoch → a = b := fun a b h1 h2 => by cases a; cases b; simp_all
            exact ee _ _ hh he))
          rw [← hh] at q0
          rw [← he] at q1
          clear hh he
          go_wp2
          go_region
          all_goals go_wp2
          all_goals go_roundw
          case rel => exact ⟨j + 1, by omega, by go_num, HE, (by first | exact hbq | exact hbq.drew | exact hbq.drew.drew), (by first | exact s0 | simpa [go_sem] using s0), (by first | exact s1 | simpa [go_sem] using s1)⟩
          case measure => simp [intOf]; omega
        · go_wp2
          go_roundw
          case rel =>
            obtain rfl : j = x.length := by omega
            exact ⟨i + 1, by omega, by go_num, HE0.out (eq_take_end HLx.out HTj.out), hbq⟩
          case measure => simp [intOf]; omega
    · go_wp2
      go_ret
      obtain rfl : i = a.length := by omega
      exact ⟨ret_bool (decide_eq_true (eq_take_end HL.out HT.out)).symm, hb⟩
end Go.Proofs.Ytobcdcfbhfoheaa
