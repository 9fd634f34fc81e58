/-
  Drawn clocks, spoilt: any.
-/
import Derived.Test.YtapmieijnbachaaT
import Derived.Test.YtapmieijnbachaaL
import Derived.Deep.QuietTactic
import Derived.BigQuiet
import Derived.Deep.LoopGhost
import Derived.Deep.RegionHeld3
import Derived.Test.YtapmieijnbachaaN
import Derived.Test.YtapmieijnbachaaA
import Derived.WalkSpells
import Derived.Laws.Cover3
import Derived.Test.YtapmieijnbachaaFA
import Derived.Test.YtapmieijnbachaaD1
namespace Go.Proofs.Ytapmieijnbachaa
open Go.RowKit
structure ClkA (x : Clock) : Prop where
  len : x.Pins.length ≤ 3
  e0 : -1 ≤ x.Epoch
  e1 : x.Epoch ≤ 100001
theorem ClkS.any {x : Clock} (h : ClkS x) : ClkA x := ⟨by rw [h.len]; decide, by have := h.e0; omega, by have := h.e1; omega⟩
def DrawCA (w : World) (g : Nat) (code : List Int) (e : Ending) (w' : World) : Prop := ∃ (H : HClock) (x : Clock), e = .returned (H.val x) ∧ OwClock w' H x ∧ ClkA x ∧ (∀ b ∈ H.foot, w.heap.size ≤ b) ∧ Cur w' g code ∧ Chg [g] w w'
set_option maxRecDepth 100000 in
set_option maxHeartbeats 4000000 in
theorem l10Any_ct (w : World) (g : Nat) (code : List Int) (hc : Cur w g code) : Calls Try.prog 29 #[.pointer (some ⟨g, 0, none⟩)] w (DrawCA w g code) := by
  have hgl := hc.lt
  go_enter Try.func29, Try.ntmps29
  go_wp2_with fail
  refine (l10Clock_ct _ g code (hc.alloc _)).mono ?_
  rintro e w1 ⟨H, x, rfl, o1, hs, f1, hc1, hC1⟩
  have hs1 := hC1.size
  simp only [World.size_alloc] at hs1 f1
  have hw1 : Chg [g] w w1 := hC1.alloc_first
  have nr : w.heap.size ∉ [g] := by simp; omega
  have Br1 : Box w1 w.heap.size [.int .i64 0, .slice none 0 0] := (Box.new w #[.int .i64 0, .slice none 0 0] 38).chg hC1 nr
  have u1 := o1.lt
  have fl1 : ∀ b ∈ H.foot, w.heap.size < b ∧ b < w1.heap.size := fun b hb => by have := f1 b hb; have := u1 b hb; omega
  clear hC1 u1 f1
  go_wp2_with fail
  have Bx2 : Box (w1.alloc (.cells #[.int .i64 x.Epoch, .slice H.Pins.a H.Pins.len H.Pins.cap] 38)) w1.heap.size [.int .i64 x.Epoch, .slice H.Pins.a H.Pins.len H.Pins.cap] := Box.new _ _ _
  have hc2 := hc1.alloc (.cells #[.int .i64 x.Epoch, .slice H.Pins.a H.Pins.len H.Pins.cap] 38)
  have hC2 := hw1.alloc_ (.cells #[.int .i64 x.Epoch, .slice H.Pins.a H.Pins.len H.Pins.cap] 38)
  have o2 := o1.alloc_ (.cells #[.int .i64 x.Epoch, .slice H.Pins.a H.Pins.len H.Pins.cap] 38)
  have Br2 := Br1.alloc (.cells #[.int .i64 x.Epoch, .slice H.Pins.a H.Pins.len H.Pins.cap] 38)
  generalize hG : w1.alloc (.cells #[.int .i64 x.Epoch, .slice H.Pins.a H.Pins.len H.Pins.cap] 38) = w2 at hc2 hC2 Bx2 Br2 o2 ⊢
  clear hG hc1 hw1 Br1 o1
  obtain ⟨ax, hax⟩ : ∃ a, a = w1.heap.size := ⟨_, rfl⟩
  rw [← hax] at Bx2 fl1 hs1 ⊢
  clear hax
  have nx : ax ∉ [g] := by simp; omega
  have hgx : ∀ b ∈ H.foot, b ∉ [g] := fun b hb hm => by simp at hm; subst hm; have := fl1 b hb; omega
  refine (l1Below_ct _ g code 3 (by unfold I64; omega) hc2).mono ?_
  rintro e w3 ⟨k0, rfl, ka, kb, hc3, hg3⟩
  have hC3 := hC2.trans hg3
  have Bx3 := Bx2.chg hg3 nx
  have Br3 := Br2.chg hg3 nr
  have o3 := o2.chg hg3 hgx
  clear hc2 hC2 hg3 Bx2 Br2 o2
  go_wp2_with fail
  refine (l1Below_ct _ g code 24 (by unfold I64; omega) hc3).mono ?_
  rintro e w4 ⟨v, rfl, v0, v1, hc4, hg4⟩
  have hC4 := hC3.trans hg4
  have Bx4 := Bx3.chg hg4 nx
  have Br4 := Br3.chg hg4 nr
  have o4 := o3.chg hg4 hgx
  clear hc3 hC3 hg4 Bx3 Br3 o3
  have qx0 := Bx4.cell 0 _ rfl
  have qx1 := Bx4.cell 1 _ rfl
  have fx := Bx4.fro
  have zx := Bx4.lt
  have qr0 := Br4.cell 0 _ rfl
  have qr1 := Br4.cell 1 _ rfl
  have fr := Br4.fro
  have zr := Br4.lt
  have sz4 := hC4.size
  obtain ⟨k, rfl⟩ := Int.eq_ofNat_of_zero_le ka
  have hk3 : k < 3 := by omega
  clear ka kb
  by_cases q0 : v = 0
  · subst q0
    go_wp2_with fail
    have ho := OwL.lit FI [-1, 100000, 100001] #[.int .i64 (-1), .int .i64 100000, .int .i64 100001] rfl (by decide) w4 3
    refine (l1PickInt_ct _ g code _ [-1, 100000, 100001] ho (by simp [foot1, Value.ownBlock]; omega) (by decide) (by decide) (hc4.alloc _)).mono ?_
    rintro e w5 ⟨y, rfl, hy, hc5, hg5⟩
    have hg5' := hg5.alloc_first
    have hC5 := hC4.trans hg5'
    have Bx5 := Bx4.chg hg5' nx
    have Br5 := Br4.chg hg5' nr
    have o5 := o4.chg hg5' hgx
    have sz5 := hC5.size
    clear hc4 hg5 hg5' hC4 Bx4 Br4 o4
    replace qx0 := Bx5.cell 0 _ rfl
    replace qx1 := Bx5.cell 1 _ rfl
    replace fx := Bx5.fro
    replace zx := Bx5.lt
    replace qr0 := Br5.cell 0 _ rfl
    replace qr1 := Br5.cell 1 _ rfl
    replace fr := Br5.fro
    replace zr := Br5.lt
    have hyb : -1 ≤ y ∧ y ≤ 100001 := by simp at hy; omega
    clear hy
    go_wp2_with fail
    refine bodyPost_ret (v := H.val (⟨y, x.Pins⟩ : Clock)) (by simp [results, Try.results29, go_sem, qr0, qr1]) rfl ⟨H, (⟨y, x.Pins⟩ : Clock), rfl, ⟨o5.Pins.chg (F := [ax, w.heap.size]) (by repeat (first | with_reducible exact Chg.refl _ _ | with_reducible refine Chg.set_ ?_ (by simp) _ | with_reducible refine Chg.alloc_ ?_ _ | with_reducible refine Chg.drew_ ?_)) (fun b hb hm => by simp at hm; have := fl1 b hb; omega)⟩, ⟨by rw [hs.len]; decide, hyb.1, hyb.2⟩, fun b hb => by have := fl1 b hb; omega, hc5.keep_ (B := w.heap.size) hgl (by repeat (first | with_reducible exact Below.refl _ _ | with_reducible refine Below.setCell ?_ (by simp <;> omega) _ | with_reducible refine Below.alloc ?_ (by simp <;> omega) _ | with_reducible refine Below.drew ?_)) hC5.size, hC5.then_below (by repeat (first | with_reducible exact Below.refl _ _ | with_reducible refine Below.setCell ?_ (by simp <;> omega) _ | with_reducible refine Below.alloc ?_ (by simp <;> omega) _ | with_reducible refine Below.drew ?_))⟩
  obtain ⟨gp, cap, hv, hgp⟩ := o4.Pins.form_pos (by rw [hs.len]; decide)
  have hS := hs
  obtain ⟨⟨pa, pn, pc⟩⟩ := H
  obtain ⟨ep, l⟩ := x
  simp only [SV.val, Value.slice.injEq] at hv
  obtain ⟨rfl, rfl, rfl⟩ := hv
  have hl3 : l.length = 3 := hs.len
  have hkl : k < l.length := by omega
  have hov : OwL FPin 66 w4 (.slice (some ⟨gp, 0, none⟩) l.length pc) l := o4.Pins
  have hfp := fl1 gp (by simp [HClock.foot, foot1, Value.ownBlock, SV.val])
  have hcap : l.length ≤ pc := by
    obtain ⟨_, _, hvv, q1, _⟩ := hov.rd'
    injection hvv with _ _ e3
    omega
  have HL3 := Hid.mk_ hl3
  have e0 : 0 ≤ ep := hs.e0
  have e1 : ep ≤ 100000 := hs.e1
  have ngx : ¬ gp = ax := by omega
  have ngx2 : ¬ ax = gp := by omega
  have ngr : ¬ gp = w.heap.size := by omega
  have ngr2 : ¬ w.heap.size = gp := by omega
  have hfo : ∀ n c, (⟨⟨some ⟨gp, 0, none⟩, n, c⟩⟩ : HClock).foot = [gp] := fun n c => by simp [HClock.foot, foot1, Value.ownBlock, SV.val]
  replace fl1 : ∀ b, b = gp → w.heap.size < b ∧ b < ax := fun b hb => by subst hb; omega
  clear hl3
  by_cases q1 : v = 1
  · subst q1
    have hkc : k ≤ pc := by omega
    go_wp2_with fail
    refine bodyPost_ret (v := (⟨⟨some ⟨gp, 0, none⟩, k, pc⟩⟩ : HClock).val ⟨ep, l.take k⟩) (by simp [results, Try.results29, go_sem, qr0, qr1]) rfl ⟨⟨⟨some ⟨gp, 0, none⟩, k, pc⟩⟩, ⟨ep, l.take k⟩, rfl, ⟨(hov.prefix_ (i := k) (show k ≤ l.length by omega)).chg (F := [ax, w.heap.size]) (by repeat (first | with_reducible exact Chg.refl _ _ | with_reducible refine Chg.set_ ?_ (by simp) _ | with_reducible refine Chg.alloc_ ?_ _ | with_reducible refine Chg.drew_ ?_)) (fun b hb hm => by simp at hm; simp [foot1, Value.ownBlock, SV.val] at hb; omega)⟩, ⟨by have := HL3.out; simp; omega, by simp only; omega, by simp only; omega⟩, fun b hb => by rw [hfo] at hb; simp at hb; omega, hc4.keep_ (B := w.heap.size) hgl (by repeat (first | with_reducible exact Below.refl _ _ | with_reducible refine Below.setCell ?_ (by simp <;> omega) _ | with_reducible refine Below.alloc ?_ (by simp <;> omega) _ | with_reducible refine Below.drew ?_)) hC4.size, hC4.then_below (by repeat (first | with_reducible exact Below.refl _ _ | with_reducible refine Below.setCell ?_ (by simp <;> omega) _ | with_reducible refine Below.alloc ?_ (by simp <;> omega) _ | with_reducible refine Below.drew ?_))⟩
  obtain ⟨p, hp⟩ : ∃ p, l[k]? = some p := ⟨_, List.getElem?_eq_getElem hkl⟩
  have HX := Hid.mk_ hp
  clear hp
  have x0 : w4.cell? ⟨gp, k * 4, none⟩ = some (.bool p.On) := hov.cell_ (j := 0) HX.out (by decide)
  have xf0 := hov.frozen_ (k * 4)
  have x1 : w4.cell? ⟨gp, k * 4 + 1, none⟩ = some (.int .i64 p.Epoch) := hov.cell_ (j := 1) HX.out (by decide)
  have xf1 := hov.frozen_ (k * 4 + 1)
  have x2 : w4.cell? ⟨gp, k * 4 + 2, none⟩ = some (.bool p.Marked) := hov.cell_ (j := 2) HX.out (by decide)
  have xf2 := hov.frozen_ (k * 4 + 2)
  have x3 : w4.cell? ⟨gp, k * 4 + 3, none⟩ = some (.int .i64 p.Seen) := hov.cell_ (j := 3) HX.out (by decide)
  have xf3 := hov.frozen_ (k * 4 + 3)
  by_cases q2 : v = 2
  · subst q2
    go_wp2_with fail
    have s0 := hov.set_ (k := k) (j := 0) (y := (⟨false, p.Epoch, p.Marked, p.Seen⟩ : Pin)) (u := .bool false) HX.out (by decide) rfl
    have s1 := s0.set_ (k := k) (j := 1) (y := (⟨false, 1, p.Marked, p.Seen⟩ : Pin)) (u := .int .i64 1) (set_get (⟨false, p.Epoch, p.Marked, p.Seen⟩ : Pin) HX.out) (by decide) rfl
    have s2 := s1.set_ (k := k) (j := 2) (y := (⟨false, 1, false, p.Seen⟩ : Pin)) (u := .bool false) (set_get (⟨false, 1, p.Marked, p.Seen⟩ : Pin) (set_get (⟨false, p.Epoch, p.Marked, p.Seen⟩ : Pin) HX.out)) (by decide) rfl
    have s3 := s2.set_ (k := k) (j := 3) (y := (⟨false, 1, false, 0⟩ : Pin)) (u := .int .i64 0) (set_get (⟨false, 1, false, p.Seen⟩ : Pin) (set_get (⟨false, 1, p.Marked, p.Seen⟩ : Pin) (set_get (⟨false, p.Epoch, p.Marked, p.Seen⟩ : Pin) HX.out))) (by decide) rfl
    simp only [List.set_set] at s3
    refine bodyPost_ret (v := (⟨⟨some ⟨gp, 0, none⟩, l.length, pc⟩⟩ : HClock).val ⟨ep, l.set k ⟨false, 1, false, 0⟩⟩) (by simp [results, Try.results29, go_sem, qr0, qr1]) rfl ⟨⟨⟨some ⟨gp, 0, none⟩, l.length, pc⟩⟩, ⟨ep, l.set k ⟨false, 1, false, 0⟩⟩, rfl, ⟨OwL.set_other (OwL.set_other s3 (fun hm => by simp [foot1, Value.ownBlock] at hm; omega)) (fun hm => by simp [foot1, Value.ownBlock] at hm; omega)⟩, ⟨by have := HL3.out; simp; omega, by simp only; omega, by simp only; omega⟩, fun b hb => by rw [hfo] at hb; simp at hb; omega, hc4.keep_ (B := w.heap.size) hgl (by repeat (first | with_reducible exact Below.refl _ _ | with_reducible refine Below.setCell ?_ (by simp <;> omega) _ | with_reducible refine Below.alloc ?_ (by simp <;> omega) _ | with_reducible refine Below.drew ?_)) hC4.size, hC4.then_below (by repeat (first | with_reducible exact Below.refl _ _ | with_reducible refine Below.setCell ?_ (by simp <;> omega) _ | with_reducible refine Below.alloc ?_ (by simp <;> omega) _ | with_reducible refine Below.drew ?_))⟩
  by_cases q3 : v = 3
  · subst q3
    go_wp2_with fail
    have s0 := hov.set_ (k := k) (j := 0) (y := (⟨true, p.Epoch, p.Marked, p.Seen⟩ : Pin)) (u := .bool true) HX.out (by decide) rfl
    have s1 := s0.set_ (k := k) (j := 1) (y := (⟨true, (ep + 1), p.Marked, p.Seen⟩ : Pin)) (u := .int .i64 (ep + 1)) (set_get (⟨true, p.Epoch, p.Marked, p.Seen⟩ : Pin) HX.out) (by decide) rfl
    have s2 := s1.set_ (k := k) (j := 2) (y := (⟨true, (ep + 1), false, p.Seen⟩ : Pin)) (u := .bool false) (set_get (⟨true, (ep + 1), p.Marked, p.Seen⟩ : Pin) (set_get (⟨true, p.Epoch, p.Marked, p.Seen⟩ : Pin) HX.out)) (by decide) rfl
    have s3 := s2.set_ (k := k) (j := 3) (y := (⟨true, (ep + 1), false, 0⟩ : Pin)) (u := .int .i64 0) (set_get (⟨true, (ep + 1), false, p.Seen⟩ : Pin) (set_get (⟨true, (ep + 1), p.Marked, p.Seen⟩ : Pin) (set_get (⟨true, p.Epoch, p.Marked, p.Seen⟩ : Pin) HX.out))) (by decide) rfl
    simp only [List.set_set] at s3
    refine bodyPost_ret (v := (⟨⟨some ⟨gp, 0, none⟩, l.length, pc⟩⟩ : HClock).val ⟨ep, l.set k ⟨true, (ep + 1), false, 0⟩⟩) (by simp [results, Try.results29, go_sem, qr0, qr1]) rfl ⟨⟨⟨some ⟨gp, 0, none⟩, l.length, pc⟩⟩, ⟨ep, l.set k ⟨true, (ep + 1), false, 0⟩⟩, rfl, ⟨OwL.set_other (OwL.set_other s3 (fun hm => by simp [foot1, Value.ownBlock] at hm; omega)) (fun hm => by simp [foot1, Value.ownBlock] at hm; omega)⟩, ⟨by have := HL3.out; simp; omega, by simp only; omega, by simp only; omega⟩, fun b hb => by rw [hfo] at hb; simp at hb; omega, hc4.keep_ (B := w.heap.size) hgl (by repeat (first | with_reducible exact Below.refl _ _ | with_reducible refine Below.setCell ?_ (by simp <;> omega) _ | with_reducible refine Below.alloc ?_ (by simp <;> omega) _ | with_reducible refine Below.drew ?_)) hC4.size, hC4.then_below (by repeat (first | with_reducible exact Below.refl _ _ | with_reducible refine Below.setCell ?_ (by simp <;> omega) _ | with_reducible refine Below.alloc ?_ (by simp <;> omega) _ | with_reducible refine Below.drew ?_))⟩
  by_cases q4 : v = 4
  · subst q4
    go_wp2_with fail
    have s0 := hov.set_ (k := k) (j := 0) (y := (⟨true, p.Epoch, p.Marked, p.Seen⟩ : Pin)) (u := .bool true) HX.out (by decide) rfl
    have s1 := s0.set_ (k := k) (j := 1) (y := (⟨true, 0, p.Marked, p.Seen⟩ : Pin)) (u := .int .i64 0) (set_get (⟨true, p.Epoch, p.Marked, p.Seen⟩ : Pin) HX.out) (by decide) rfl
    have s2 := s1.set_ (k := k) (j := 2) (y := (⟨true, 0, false, p.Seen⟩ : Pin)) (u := .bool false) (set_get (⟨true, 0, p.Marked, p.Seen⟩ : Pin) (set_get (⟨true, p.Epoch, p.Marked, p.Seen⟩ : Pin) HX.out)) (by decide) rfl
    have s3 := s2.set_ (k := k) (j := 3) (y := (⟨true, 0, false, 3⟩ : Pin)) (u := .int .i64 3) (set_get (⟨true, 0, false, p.Seen⟩ : Pin) (set_get (⟨true, 0, p.Marked, p.Seen⟩ : Pin) (set_get (⟨true, p.Epoch, p.Marked, p.Seen⟩ : Pin) HX.out))) (by decide) rfl
    simp only [List.set_set] at s3
    refine bodyPost_ret (v := (⟨⟨some ⟨gp, 0, none⟩, l.length, pc⟩⟩ : HClock).val ⟨ep, l.set k ⟨true, 0, false, 3⟩⟩) (by simp [results, Try.results29, go_sem, qr0, qr1]) rfl ⟨⟨⟨some ⟨gp, 0, none⟩, l.length, pc⟩⟩, ⟨ep, l.set k ⟨true, 0, false, 3⟩⟩, rfl, ⟨OwL.set_other (OwL.set_other s3 (fun hm => by simp [foot1, Value.ownBlock] at hm; omega)) (fun hm => by simp [foot1, Value.ownBlock] at hm; omega)⟩, ⟨by have := HL3.out; simp; omega, by simp only; omega, by simp only; omega⟩, fun b hb => by rw [hfo] at hb; simp at hb; omega, hc4.keep_ (B := w.heap.size) hgl (by repeat (first | with_reducible exact Below.refl _ _ | with_reducible refine Below.setCell ?_ (by simp <;> omega) _ | with_reducible refine Below.alloc ?_ (by simp <;> omega) _ | with_reducible refine Below.drew ?_)) hC4.size, hC4.then_below (by repeat (first | with_reducible exact Below.refl _ _ | with_reducible refine Below.setCell ?_ (by simp <;> omega) _ | with_reducible refine Below.alloc ?_ (by simp <;> omega) _ | with_reducible refine Below.drew ?_))⟩
  by_cases q5 : v = 5
  · subst q5
    go_wp2_with fail
    have s0 := hov.set_ (k := k) (j := 0) (y := (⟨true, p.Epoch, p.Marked, p.Seen⟩ : Pin)) (u := .bool true) HX.out (by decide) rfl
    have s1 := s0.set_ (k := k) (j := 1) (y := (⟨true, 0, p.Marked, p.Seen⟩ : Pin)) (u := .int .i64 0) (set_get (⟨true, p.Epoch, p.Marked, p.Seen⟩ : Pin) HX.out) (by decide) rfl
    have s2 := s1.set_ (k := k) (j := 2) (y := (⟨true, 0, true, p.Seen⟩ : Pin)) (u := .bool true) (set_get (⟨true, 0, p.Marked, p.Seen⟩ : Pin) (set_get (⟨true, p.Epoch, p.Marked, p.Seen⟩ : Pin) HX.out)) (by decide) rfl
    have s3 := s2.set_ (k := k) (j := 3) (y := (⟨true, 0, true, 0⟩ : Pin)) (u := .int .i64 0) (set_get (⟨true, 0, true, p.Seen⟩ : Pin) (set_get (⟨true, 0, p.Marked, p.Seen⟩ : Pin) (set_get (⟨true, p.Epoch, p.Marked, p.Seen⟩ : Pin) HX.out))) (by decide) rfl
    simp only [List.set_set] at s3
    refine bodyPost_ret (v := (⟨⟨some ⟨gp, 0, none⟩, l.length, pc⟩⟩ : HClock).val ⟨ep, l.set k ⟨true, 0, true, 0⟩⟩) (by simp [results, Try.results29, go_sem, qr0, qr1]) rfl ⟨⟨⟨some ⟨gp, 0, none⟩, l.length, pc⟩⟩, ⟨ep, l.set k ⟨true, 0, true, 0⟩⟩, rfl, ⟨OwL.set_other (OwL.set_other s3 (fun hm => by simp [foot1, Value.ownBlock] at hm; omega)) (fun hm => by simp [foot1, Value.ownBlock] at hm; omega)⟩, ⟨by have := HL3.out; simp; omega, by simp only; omega, by simp only; omega⟩, fun b hb => by rw [hfo] at hb; simp at hb; omega, hc4.keep_ (B := w.heap.size) hgl (by repeat (first | with_reducible exact Below.refl _ _ | with_reducible refine Below.setCell ?_ (by simp <;> omega) _ | with_reducible refine Below.alloc ?_ (by simp <;> omega) _ | with_reducible refine Below.drew ?_)) hC4.size, hC4.then_below (by repeat (first | with_reducible exact Below.refl _ _ | with_reducible refine Below.setCell ?_ (by simp <;> omega) _ | with_reducible refine Below.alloc ?_ (by simp <;> omega) _ | with_reducible refine Below.drew ?_))⟩
  go_wp2_with fail
  refine bodyPost_ret (v := (⟨⟨some ⟨gp, 0, none⟩, l.length, pc⟩⟩ : HClock).val ⟨ep, l⟩) (by simp [results, Try.results29, go_sem, qr0, qr1]) rfl ⟨⟨⟨some ⟨gp, 0, none⟩, l.length, pc⟩⟩, ⟨ep, l⟩, rfl, ⟨hov.chg (F := [w.heap.size]) (by repeat (first | with_reducible exact Chg.refl _ _ | with_reducible refine Chg.set_ ?_ (by simp) _ | with_reducible refine Chg.alloc_ ?_ _ | with_reducible refine Chg.drew_ ?_)) (fun b hb hm => by simp at hm; simp [foot1, Value.ownBlock, SV.val] at hb; omega)⟩, ⟨by have := HL3.out; simp; omega, by simp only; omega, by simp only; omega⟩, fun b hb => by rw [hfo] at hb; simp at hb; omega, hc4.keep_ (B := w.heap.size) hgl (by repeat (first | with_reducible exact Below.refl _ _ | with_reducible refine Below.setCell ?_ (by simp <;> omega) _ | with_reducible refine Below.alloc ?_ (by simp <;> omega) _ | with_reducible refine Below.drew ?_)) hC4.size, hC4.then_below (by repeat (first | with_reducible exact Below.refl _ _ | with_reducible refine Below.setCell ?_ (by simp <;> omega) _ | with_reducible refine Below.alloc ?_ (by simp <;> omega) _ | with_reducible refine Below.drew ?_))⟩
end Go.Proofs.Ytapmieijnbachaa
