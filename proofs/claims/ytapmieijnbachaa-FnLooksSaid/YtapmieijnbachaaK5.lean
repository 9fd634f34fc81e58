/-
  Clocks looked at and read: the contracts.
-/
import Derived.Test.YtapmieijnbachaaT
import Derived.Test.YtapmieijnbachaaL
import Derived.Deep.QuietTactic
import Derived.BigQuiet
import Derived.Deep.LoopGhost
import Derived.Deep.RegionHeld3
import Derived.Test.YtapmieijnbachaaN
import Derived.Test.YtapmieijnbachaaA
import Derived.WalkSpells
import Derived.Laws.Cover3
import Derived.Test.YtapmieijnbachaaK3
namespace Go.Proofs.Ytapmieijnbachaa
open Go.RowKit

def lookC (x : Clock) (wk e : Int) : Clock × Bool :=
  if clockOkB x = true ∧ inB 0 2 wk = true then
    if (x.Pins.getD wk.toNat pin0).On = false ∨ (x.Pins.getD wk.toNat pin0).Marked = true ∨ (x.Pins.getD wk.toNat pin0).Epoch = e then (x, true)
    else if (x.Pins.getD wk.toNat pin0).Seen < 2 then (⟨x.Epoch, x.Pins.set wk.toNat ⟨true, (x.Pins.getD wk.toNat pin0).Epoch, false, (x.Pins.getD wk.toNat pin0).Seen + 1⟩⟩, false)
    else (⟨x.Epoch, x.Pins.set wk.toNat ⟨true, (x.Pins.getD wk.toNat pin0).Epoch, true, 0⟩⟩, true)
  else (x, false)
def pinnedC (x : Clock) (wk : Int) : Int × Bool :=
  if clockOkB x = true ∧ inB 0 2 wk = true ∧ (x.Pins.getD wk.toNat pin0).On = true ∧ (x.Pins.getD wk.toNat pin0).Marked = false then ((x.Pins.getD wk.toNat pin0).Epoch, true) else (0, false)
theorem clockOk_pin {x : Clock} (h : clockOkB x = true) {k : Nat} {p : Pin} (hp : x.Pins[k]? = some p) : 0 ≤ p.Seen ∧ p.Seen ≤ 2 ∧ 0 ≤ p.Epoch ∧ p.Epoch ≤ x.Epoch := by
  simp only [clockOkB, Bool.and_eq_true, List.all_eq_true] at h
  have a := h.2 p (List.mem_of_getElem? hp)
  simp only [pinB, Bool.and_eq_true] at a
  have b := inB_iff.1 a.1.1
  have c := inB_iff.1 a.1.2
  omega
theorem look_same {x : Clock} {k : Nat} {e : Int} {p : Pin} (h1 : clockOkB x = true) (h2 : inB 0 2 (k : Int) = true) (hp : x.Pins.getD (k : Int).toNat pin0 = p) (hc : p.On = false ∨ p.Marked = true ∨ p.Epoch = e) : lookC x (k : Int) e = (x, true) := by
  unfold lookC
  rw [if_pos ⟨h1, h2⟩, hp, if_pos hc]
theorem look_more {x : Clock} {k : Nat} {e : Int} {p : Pin} (h1 : clockOkB x = true) (h2 : inB 0 2 (k : Int) = true) (hp : x.Pins.getD (k : Int).toNat pin0 = p) (hc : ¬ (p.On = false ∨ p.Marked = true ∨ p.Epoch = e)) (hs : p.Seen < 2) : lookC x (k : Int) e = (⟨x.Epoch, x.Pins.set k ⟨true, p.Epoch, false, p.Seen + 1⟩⟩, false) := by
  unfold lookC
  rw [if_pos ⟨h1, h2⟩, hp, if_neg hc, if_pos hs, Int.toNat_natCast]
theorem look_mark {x : Clock} {k : Nat} {e : Int} {p : Pin} (h1 : clockOkB x = true) (h2 : inB 0 2 (k : Int) = true) (hp : x.Pins.getD (k : Int).toNat pin0 = p) (hc : ¬ (p.On = false ∨ p.Marked = true ∨ p.Epoch = e)) (hs : ¬ p.Seen < 2) : lookC x (k : Int) e = (⟨x.Epoch, x.Pins.set k ⟨true, p.Epoch, true, 0⟩⟩, true) := by
  unfold lookC
  rw [if_pos ⟨h1, h2⟩, hp, if_neg hc, if_neg hs, Int.toNat_natCast]

theorem ret_ib {a c : Int} {b d : Bool} (h : (a, b) = (c, d)) : Ending.returned (.tuple #[.int .i64 a, .bool b]) = .returned (.tuple #[.int .i64 c, .bool d]) := by
  injection h with h1 h2
  rw [h1, h2]

set_option maxRecDepth 100000 in
set_option maxHeartbeats 400000 in
theorem LookAt_impl (w : World) (H : HClock) (x : Clock) (wk e0 : Int) (h : RdClock w w.heap.size H x) (hs : x.Pins.length ≤ 1073741824) :
    Calls Try.prog 18 #[.agg #[.int .i64 x.Epoch, .slice H.Pins.a H.Pins.len H.Pins.cap], .int .i64 wk, .int .i64 e0] w fun e w' => ∃ H' : HClock, e = .returned (.tuple #[H'.val (lookC x wk e0).1, .bool (lookC x wk e0).2]) ∧ OwClock w' H' (lookC x wk e0).1 ∧ (∀ g ∈ H'.foot, w.heap.size ≤ g) ∧ Below w.heap.size w w' := by
  obtain ⟨⟨A, n, c⟩⟩ := H
  obtain ⟨ep, l⟩ := x
  have hr : RdL FPin w w.heap.size (.slice A n c) l := h.Pins
  obtain ⟨_, _, hv, q1, q2, qx⟩ := id hr
  simp only [Value.slice.injEq] at hv
  obtain ⟨rfl, rfl, rfl⟩ := hv
  have hlt0 : l.length ≤ 9223372036854775807 := by unfold maxLen at q2; omega
  clear q1 q2 qx h
  simp only at hs
  by_cases k1 : clockOkB ⟨ep, l⟩ = true
  case neg =>
    have k1' : clockOkB ⟨ep, l⟩ = false := (Bool.not_eq_true _).mp k1
    have HN := Hid.mk_ (show lookC ⟨ep, l⟩ wk e0 = (⟨ep, l⟩, false) from if_neg (fun hh => k1 hh.1))
    clear k1
    show Calls Try.prog 18 #[.agg #[.int .i64 ep, .slice A l.length c], .int .i64 wk, .int .i64 e0] _ _
    go_enter Try.func18, Try.ntmps18
    go_wp2_with fail
    refine (copyClock_impl _ ⟨⟨A, l.length, c⟩⟩ ⟨ep, l⟩ ⟨rd_up hr (by repeat (first | exact Below.refl _ _ | refine Below.alloc ?_ (by simp <;> omega) _ | refine below_grow_of ?_ (by simp <;> omega) _ _ | refine Below.drew ?_))⟩ hs).mono ?_
    rintro e w1 ⟨⟨⟨A1, n1, d1⟩⟩, rfl, ho1, hf1, hb1⟩
    have hov1 : OwL FPin 66 w1 (.slice A1 n1 d1) l := ho1.Pins
    have hfv : ∀ g ∈ foot1 (.slice A1 n1 d1), w.heap.size + 1 < g := by intro g hg; have := hf1 g hg; simp at this; omega
    have hfl : ∀ g ∈ foot1 (.slice A1 n1 d1), g < w1.heap.size := foot_lt hov1
    have p0 : w1.cell? ⟨w.heap.size, 0, none⟩ = some (.int .i64 ep) := cell_up hb1 (by simp <;> omega) (by simp [go_sem])
    have p1 : w1.cell? ⟨w.heap.size, 1, none⟩ = some (.slice A l.length c) := cell_up hb1 (by simp <;> omega) (by simp [go_sem])
    have r0 : w1.cell? ⟨w.heap.size + 1, 0, none⟩ = some (.int .i64 0) := cell_up hb1 (by simp <;> omega) (by simp [go_sem])
    have r1 : w1.cell? ⟨w.heap.size + 1, 1, none⟩ = some (.slice none 0 0) := cell_up hb1 (by simp <;> omega) (by simp [go_sem])
    have rf0 : w1.frozen? ⟨w.heap.size + 1, 0, none⟩ = false := frozen_up hb1 (by simp <;> omega) (by simp [go_sem])
    have rf1 : w1.frozen? ⟨w.heap.size + 1, 1, none⟩ = false := frozen_up hb1 (by simp <;> omega) (by simp [go_sem])
    have hz1 : w.heap.size + 1 < w1.heap.size := by have := hb1.size; simp at this; omega
    have hz0 : w.heap.size < w1.heap.size := by omega
    have ne0 : ¬ w1.heap.size = w.heap.size := by omega
    have ne1 : ¬ w1.heap.size = w.heap.size + 1 := by omega
    have ne2 : ¬ w.heap.size = w1.heap.size := by omega
    have ne3 : ¬ w.heap.size + 1 = w1.heap.size := by omega
    have hB1 : Below w.heap.size w w1 := Below.trans (by repeat (first | exact Below.refl _ _ | refine Below.alloc ?_ (by simp <;> omega) _ | refine below_grow_of ?_ (by simp <;> omega) _ _ | refine Below.drew ?_)) (hb1.mono (by simp; omega))
    clear ho1 hf1 hb1
    go_wp2_with fail
    refine (ClockOk_impl _ ⟨⟨A, l.length, c⟩⟩ ⟨ep, l⟩ ⟨rd_up hr (hB1.alloc hB1.size _)⟩).mono ?_
    rw [k1']
    rintro e w2 ⟨rfl, hb2⟩
    have q0 : w2.cell? ⟨w1.heap.size, 0, none⟩ = some (.int .i64 ep) := cell_up hb2 (by simp <;> omega) (by simp [go_sem])
    have q1 : w2.cell? ⟨w1.heap.size, 1, none⟩ = some (.slice A1 n1 d1) := cell_up hb2 (by simp <;> omega) (by simp [go_sem])
    have qf0 : w2.frozen? ⟨w1.heap.size, 0, none⟩ = false := frozen_up hb2 (by simp <;> omega) (by simp [go_sem])
    replace p0 := up2 hb2 (by omega) p0
    replace p1 := up2 hb2 (by omega) p1
    replace r0 := up2 hb2 (by omega) r0
    replace r1 := up2 hb2 (by omega) r1
    replace rf0 := fup2 hb2 (by omega) rf0
    replace rf1 := fup2 hb2 (by omega) rf1
    have hz2 : w1.heap.size < w2.heap.size := by have := hb2.size; simp at this; omega
    have hov : OwL FPin 66 w2 (.slice A1 n1 d1) l := (hov1.alloc_ _).keep (fun g hg => hb2.block g (by have := hfl g (mem_foot1.2 hg); simp; omega))
    have hB2 : Below w.heap.size w w2 := (hB1.alloc hB1.size _).trans (hb2.mono (by simp; omega))
    clear hov1 hb2 hB1
    go_wp2_with (go_at_call 34; refine (isWorker_ct _ _).mono ?_; rintro e w3 ⟨rfl, rfl⟩)
    refine bodyPost_ret (v := .tuple #[.agg #[.int .i64 ep, .slice A1 n1 d1], .bool false]) (by simp [results, Try.results18, go_sem, r0, r1]) rfl ⟨⟨⟨A1, n1, d1⟩⟩, by rw [HN.out], ⟨by rw [HN.out]; exact OwL.set_other (OwL.set_other hov (fun hm => by have a := hfv _ hm; have b := hfl _ hm; omega)) (fun hm => by have a := hfv _ hm; have b := hfl _ hm; omega)⟩, fun g hg => by have := hfv g hg; omega, by ((repeat (first | with_reducible exact hB2 | with_reducible refine Below.setCell ?_ ?_ _)); all_goals (simp <;> omega))⟩
  by_cases k2 : inB 0 2 wk = true
  case neg =>
    have k2' : inB 0 2 wk = false := (Bool.not_eq_true _).mp k2
    have HN := Hid.mk_ (show lookC ⟨ep, l⟩ wk e0 = (⟨ep, l⟩, false) from if_neg (fun hh => k2 hh.2))
    clear k2
    show Calls Try.prog 18 #[.agg #[.int .i64 ep, .slice A l.length c], .int .i64 wk, .int .i64 e0] _ _
    go_enter Try.func18, Try.ntmps18
    go_wp2_with fail
    refine (copyClock_impl _ ⟨⟨A, l.length, c⟩⟩ ⟨ep, l⟩ ⟨rd_up hr (by repeat (first | exact Below.refl _ _ | refine Below.alloc ?_ (by simp <;> omega) _ | refine below_grow_of ?_ (by simp <;> omega) _ _ | refine Below.drew ?_))⟩ hs).mono ?_
    rintro e w1 ⟨⟨⟨A1, n1, d1⟩⟩, rfl, ho1, hf1, hb1⟩
    have hov1 : OwL FPin 66 w1 (.slice A1 n1 d1) l := ho1.Pins
    have hfv : ∀ g ∈ foot1 (.slice A1 n1 d1), w.heap.size + 1 < g := by intro g hg; have := hf1 g hg; simp at this; omega
    have hfl : ∀ g ∈ foot1 (.slice A1 n1 d1), g < w1.heap.size := foot_lt hov1
    have p0 : w1.cell? ⟨w.heap.size, 0, none⟩ = some (.int .i64 ep) := cell_up hb1 (by simp <;> omega) (by simp [go_sem])
    have p1 : w1.cell? ⟨w.heap.size, 1, none⟩ = some (.slice A l.length c) := cell_up hb1 (by simp <;> omega) (by simp [go_sem])
    have r0 : w1.cell? ⟨w.heap.size + 1, 0, none⟩ = some (.int .i64 0) := cell_up hb1 (by simp <;> omega) (by simp [go_sem])
    have r1 : w1.cell? ⟨w.heap.size + 1, 1, none⟩ = some (.slice none 0 0) := cell_up hb1 (by simp <;> omega) (by simp [go_sem])
    have rf0 : w1.frozen? ⟨w.heap.size + 1, 0, none⟩ = false := frozen_up hb1 (by simp <;> omega) (by simp [go_sem])
    have rf1 : w1.frozen? ⟨w.heap.size + 1, 1, none⟩ = false := frozen_up hb1 (by simp <;> omega) (by simp [go_sem])
    have hz1 : w.heap.size + 1 < w1.heap.size := by have := hb1.size; simp at this; omega
    have hz0 : w.heap.size < w1.heap.size := by omega
    have ne0 : ¬ w1.heap.size = w.heap.size := by omega
    have ne1 : ¬ w1.heap.size = w.heap.size + 1 := by omega
    have ne2 : ¬ w.heap.size = w1.heap.size := by omega
    have ne3 : ¬ w.heap.size + 1 = w1.heap.size := by omega
    have hB1 : Below w.heap.size w w1 := Below.trans (by repeat (first | exact Below.refl _ _ | refine Below.alloc ?_ (by simp <;> omega) _ | refine below_grow_of ?_ (by simp <;> omega) _ _ | refine Below.drew ?_)) (hb1.mono (by simp; omega))
    clear ho1 hf1 hb1
    go_wp2_with fail
    refine (ClockOk_impl _ ⟨⟨A, l.length, c⟩⟩ ⟨ep, l⟩ ⟨rd_up hr (hB1.alloc hB1.size _)⟩).mono ?_
    rw [k1]
    rintro e w2 ⟨rfl, hb2⟩
    have q0 : w2.cell? ⟨w1.heap.size, 0, none⟩ = some (.int .i64 ep) := cell_up hb2 (by simp <;> omega) (by simp [go_sem])
    have q1 : w2.cell? ⟨w1.heap.size, 1, none⟩ = some (.slice A1 n1 d1) := cell_up hb2 (by simp <;> omega) (by simp [go_sem])
    have qf0 : w2.frozen? ⟨w1.heap.size, 0, none⟩ = false := frozen_up hb2 (by simp <;> omega) (by simp [go_sem])
    replace p0 := up2 hb2 (by omega) p0
    replace p1 := up2 hb2 (by omega) p1
    replace r0 := up2 hb2 (by omega) r0
    replace r1 := up2 hb2 (by omega) r1
    replace rf0 := fup2 hb2 (by omega) rf0
    replace rf1 := fup2 hb2 (by omega) rf1
    have hz2 : w1.heap.size < w2.heap.size := by have := hb2.size; simp at this; omega
    have hov : OwL FPin 66 w2 (.slice A1 n1 d1) l := (hov1.alloc_ _).keep (fun g hg => hb2.block g (by have := hfl g (mem_foot1.2 hg); simp; omega))
    have hB2 : Below w.heap.size w w2 := (hB1.alloc hB1.size _).trans (hb2.mono (by simp; omega))
    clear hov1 hb2 hB1
    go_wp2_with (go_at_call 34; refine (isWorker_ct _ _).mono ?_; rintro e w3 ⟨rfl, rfl⟩)
    refine bodyPost_ret (v := .tuple #[.agg #[.int .i64 ep, .slice A1 n1 d1], .bool false]) (by simp [results, Try.results18, go_sem, r0, r1]) rfl ⟨⟨⟨A1, n1, d1⟩⟩, by rw [HN.out], ⟨by rw [HN.out]; exact OwL.set_other (OwL.set_other hov (fun hm => by have a := hfv _ hm; have b := hfl _ hm; omega)) (fun hm => by have a := hfv _ hm; have b := hfl _ hm; omega)⟩, fun g hg => by have := hfv g hg; omega, by ((repeat (first | with_reducible exact hB2 | with_reducible refine Below.setCell ?_ ?_ _)); all_goals (simp <;> omega))⟩
  obtain ⟨k0, rfl⟩ := Int.eq_ofNat_of_zero_le (inB_iff.1 k2).1
  have H3 : Hid (l.length = 3) := clockOk_len k1
  have hk0 : k0 < l.length := by rw [H3.out]; have := (inB_iff.1 k2).2; omega
  obtain ⟨p, hp⟩ : ∃ p, l[k0]? = some p := ⟨_, List.getElem?_eq_getElem hk0⟩
  have HG : Hid (l.getD (k0 : Int).toNat pin0 = p) := Hid.mk_ (by rw [Int.toNat_natCast, List.getD, hp]; rfl)
  have HX := Hid.mk_ hp
  clear hp
  have hpb := clockOk_pin k1 HX.out
  simp only at hpb
  obtain ⟨on, pe, mk, ps⟩ := p
  simp only at hpb
  cases on with
  | false =>
    have HN := Hid.mk_ (look_same k1 k2 HG.out (e := e0) (.inl rfl))
    show Calls Try.prog 18 #[.agg #[.int .i64 ep, .slice A l.length c], .int .i64 (k0 : Int), .int .i64 e0] _ _
    go_enter Try.func18, Try.ntmps18
    go_wp2_with fail
    refine (copyClock_impl _ ⟨⟨A, l.length, c⟩⟩ ⟨ep, l⟩ ⟨rd_up hr (by repeat (first | exact Below.refl _ _ | refine Below.alloc ?_ (by simp <;> omega) _ | refine below_grow_of ?_ (by simp <;> omega) _ _ | refine Below.drew ?_))⟩ hs).mono ?_
    rintro e w1 ⟨⟨⟨A1, n1, d1⟩⟩, rfl, ho1, hf1, hb1⟩
    have hov1 : OwL FPin 66 w1 (.slice A1 n1 d1) l := ho1.Pins
    have hfv : ∀ g ∈ foot1 (.slice A1 n1 d1), w.heap.size + 1 < g := by intro g hg; have := hf1 g hg; simp at this; omega
    have hfl : ∀ g ∈ foot1 (.slice A1 n1 d1), g < w1.heap.size := foot_lt hov1
    have p0 : w1.cell? ⟨w.heap.size, 0, none⟩ = some (.int .i64 ep) := cell_up hb1 (by simp <;> omega) (by simp [go_sem])
    have p1 : w1.cell? ⟨w.heap.size, 1, none⟩ = some (.slice A l.length c) := cell_up hb1 (by simp <;> omega) (by simp [go_sem])
    have r0 : w1.cell? ⟨w.heap.size + 1, 0, none⟩ = some (.int .i64 0) := cell_up hb1 (by simp <;> omega) (by simp [go_sem])
    have r1 : w1.cell? ⟨w.heap.size + 1, 1, none⟩ = some (.slice none 0 0) := cell_up hb1 (by simp <;> omega) (by simp [go_sem])
    have rf0 : w1.frozen? ⟨w.heap.size + 1, 0, none⟩ = false := frozen_up hb1 (by simp <;> omega) (by simp [go_sem])
    have rf1 : w1.frozen? ⟨w.heap.size + 1, 1, none⟩ = false := frozen_up hb1 (by simp <;> omega) (by simp [go_sem])
    have hz1 : w.heap.size + 1 < w1.heap.size := by have := hb1.size; simp at this; omega
    have hz0 : w.heap.size < w1.heap.size := by omega
    have ne0 : ¬ w1.heap.size = w.heap.size := by omega
    have ne1 : ¬ w1.heap.size = w.heap.size + 1 := by omega
    have ne2 : ¬ w.heap.size = w1.heap.size := by omega
    have ne3 : ¬ w.heap.size + 1 = w1.heap.size := by omega
    have hB1 : Below w.heap.size w w1 := Below.trans (by repeat (first | exact Below.refl _ _ | refine Below.alloc ?_ (by simp <;> omega) _ | refine below_grow_of ?_ (by simp <;> omega) _ _ | refine Below.drew ?_)) (hb1.mono (by simp; omega))
    clear ho1 hf1 hb1
    go_wp2_with fail
    refine (ClockOk_impl _ ⟨⟨A, l.length, c⟩⟩ ⟨ep, l⟩ ⟨rd_up hr (hB1.alloc hB1.size _)⟩).mono ?_
    rw [k1]
    rintro e w2 ⟨rfl, hb2⟩
    have q0 : w2.cell? ⟨w1.heap.size, 0, none⟩ = some (.int .i64 ep) := cell_up hb2 (by simp <;> omega) (by simp [go_sem])
    have q1 : w2.cell? ⟨w1.heap.size, 1, none⟩ = some (.slice A1 n1 d1) := cell_up hb2 (by simp <;> omega) (by simp [go_sem])
    have qf0 : w2.frozen? ⟨w1.heap.size, 0, none⟩ = false := frozen_up hb2 (by simp <;> omega) (by simp [go_sem])
    replace p0 := up2 hb2 (by omega) p0
    replace p1 := up2 hb2 (by omega) p1
    replace r0 := up2 hb2 (by omega) r0
    replace r1 := up2 hb2 (by omega) r1
    replace rf0 := fup2 hb2 (by omega) rf0
    replace rf1 := fup2 hb2 (by omega) rf1
    have hz2 : w1.heap.size < w2.heap.size := by have := hb2.size; simp at this; omega
    have hov : OwL FPin 66 w2 (.slice A1 n1 d1) l := (hov1.alloc_ _).keep (fun g hg => hb2.block g (by have := hfl g (mem_foot1.2 hg); simp; omega))
    have hB2 : Below w.heap.size w w2 := (hB1.alloc hB1.size _).trans (hb2.mono (by simp; omega))
    clear hov1 hb2 hB1
    obtain ⟨g, cap, hv, hg⟩ := hov.form_pos (by rw [H3.out]; decide)
    simp only [Value.slice.injEq] at hv
    obtain ⟨rfl, rfl, rfl⟩ := hv
    have hg1 : w.heap.size + 1 < g := hfv g (mem_foot1.2 rfl)
    have hg2 : g < w1.heap.size := hfl g (mem_foot1.2 rfl)
    have ng0 : ¬ g = w.heap.size := by omega
    have ng1 : ¬ g = w.heap.size + 1 := by omega
    have ng2 : ¬ g = w1.heap.size := by omega
    have ng3 : ¬ w.heap.size = g := by omega
    have ng4 : ¬ w.heap.size + 1 = g := by omega
    have ng5 : ¬ w1.heap.size = g := by omega
    have x0 : w2.cell? ⟨g, k0 * 4, none⟩ = some (.bool false) := hov.cell_ (j := 0) HX.out (by decide)
    have xf0 := hov.frozen_ (k0 * 4)
    have x1 : w2.cell? ⟨g, k0 * 4 + 1, none⟩ = some (.int .i64 pe) := hov.cell_ (j := 1) HX.out (by decide)
    have xf1 := hov.frozen_ (k0 * 4 + 1)
    have x2 : w2.cell? ⟨g, k0 * 4 + 2, none⟩ = some (.bool mk) := hov.cell_ (j := 2) HX.out (by decide)
    have xf2 := hov.frozen_ (k0 * 4 + 2)
    have x3 : w2.cell? ⟨g, k0 * 4 + 3, none⟩ = some (.int .i64 ps) := hov.cell_ (j := 3) HX.out (by decide)
    have xf3 := hov.frozen_ (k0 * 4 + 3)
    go_wp2_with (go_at_call 34; refine (isWorker_ct _ _).mono ?_; rintro e w3 ⟨rfl, rfl⟩)
    refine bodyPost_ret (v := .tuple #[.agg #[.int .i64 ep, .slice (some ⟨g, 0, none⟩) l.length d1], .bool true]) (by simp [results, Try.results18, go_sem, r0, r1]) rfl ⟨⟨⟨some ⟨g, 0, none⟩, l.length, d1⟩⟩, by rw [HN.out], ⟨by rw [HN.out]; exact OwL.set_other (OwL.set_other hov (fun hm => by have a := hfv _ hm; have b := hfl _ hm; omega)) (fun hm => by have a := hfv _ hm; have b := hfl _ hm; omega)⟩, fun g hg => by have := hfv g hg; omega, by ((repeat (first | with_reducible exact hB2 | with_reducible refine Below.setCell ?_ ?_ _)); all_goals (simp <;> omega))⟩
  | true =>
  cases mk with
  | true =>
    have HN := Hid.mk_ (look_same k1 k2 HG.out (e := e0) (.inr (.inl rfl)))
    show Calls Try.prog 18 #[.agg #[.int .i64 ep, .slice A l.length c], .int .i64 (k0 : Int), .int .i64 e0] _ _
    go_enter Try.func18, Try.ntmps18
    go_wp2_with fail
    refine (copyClock_impl _ ⟨⟨A, l.length, c⟩⟩ ⟨ep, l⟩ ⟨rd_up hr (by repeat (first | exact Below.refl _ _ | refine Below.alloc ?_ (by simp <;> omega) _ | refine below_grow_of ?_ (by simp <;> omega) _ _ | refine Below.drew ?_))⟩ hs).mono ?_
    rintro e w1 ⟨⟨⟨A1, n1, d1⟩⟩, rfl, ho1, hf1, hb1⟩
    have hov1 : OwL FPin 66 w1 (.slice A1 n1 d1) l := ho1.Pins
    have hfv : ∀ g ∈ foot1 (.slice A1 n1 d1), w.heap.size + 1 < g := by intro g hg; have := hf1 g hg; simp at this; omega
    have hfl : ∀ g ∈ foot1 (.slice A1 n1 d1), g < w1.heap.size := foot_lt hov1
    have p0 : w1.cell? ⟨w.heap.size, 0, none⟩ = some (.int .i64 ep) := cell_up hb1 (by simp <;> omega) (by simp [go_sem])
    have p1 : w1.cell? ⟨w.heap.size, 1, none⟩ = some (.slice A l.length c) := cell_up hb1 (by simp <;> omega) (by simp [go_sem])
    have r0 : w1.cell? ⟨w.heap.size + 1, 0, none⟩ = some (.int .i64 0) := cell_up hb1 (by simp <;> omega) (by simp [go_sem])
    have r1 : w1.cell? ⟨w.heap.size + 1, 1, none⟩ = some (.slice none 0 0) := cell_up hb1 (by simp <;> omega) (by simp [go_sem])
    have rf0 : w1.frozen? ⟨w.heap.size + 1, 0, none⟩ = false := frozen_up hb1 (by simp <;> omega) (by simp [go_sem])
    have rf1 : w1.frozen? ⟨w.heap.size + 1, 1, none⟩ = false := frozen_up hb1 (by simp <;> omega) (by simp [go_sem])
    have hz1 : w.heap.size + 1 < w1.heap.size := by have := hb1.size; simp at this; omega
    have hz0 : w.heap.size < w1.heap.size := by omega
    have ne0 : ¬ w1.heap.size = w.heap.size := by omega
    have ne1 : ¬ w1.heap.size = w.heap.size + 1 := by omega
    have ne2 : ¬ w.heap.size = w1.heap.size := by omega
    have ne3 : ¬ w.heap.size + 1 = w1.heap.size := by omega
    have hB1 : Below w.heap.size w w1 := Below.trans (by repeat (first | exact Below.refl _ _ | refine Below.alloc ?_ (by simp <;> omega) _ | refine below_grow_of ?_ (by simp <;> omega) _ _ | refine Below.drew ?_)) (hb1.mono (by simp; omega))
    clear ho1 hf1 hb1
    go_wp2_with fail
    refine (ClockOk_impl _ ⟨⟨A, l.length, c⟩⟩ ⟨ep, l⟩ ⟨rd_up hr (hB1.alloc hB1.size _)⟩).mono ?_
    rw [k1]
    rintro e w2 ⟨rfl, hb2⟩
    have q0 : w2.cell? ⟨w1.heap.size, 0, none⟩ = some (.int .i64 ep) := cell_up hb2 (by simp <;> omega) (by simp [go_sem])
    have q1 : w2.cell? ⟨w1.heap.size, 1, none⟩ = some (.slice A1 n1 d1) := cell_up hb2 (by simp <;> omega) (by simp [go_sem])
    have qf0 : w2.frozen? ⟨w1.heap.size, 0, none⟩ = false := frozen_up hb2 (by simp <;> omega) (by simp [go_sem])
    replace p0 := up2 hb2 (by omega) p0
    replace p1 := up2 hb2 (by omega) p1
    replace r0 := up2 hb2 (by omega) r0
    replace r1 := up2 hb2 (by omega) r1
    replace rf0 := fup2 hb2 (by omega) rf0
    replace rf1 := fup2 hb2 (by omega) rf1
    have hz2 : w1.heap.size < w2.heap.size := by have := hb2.size; simp at this; omega
    have hov : OwL FPin 66 w2 (.slice A1 n1 d1) l := (hov1.alloc_ _).keep (fun g hg => hb2.block g (by have := hfl g (mem_foot1.2 hg); simp; omega))
    have hB2 : Below w.heap.size w w2 := (hB1.alloc hB1.size _).trans (hb2.mono (by simp; omega))
    clear hov1 hb2 hB1
    obtain ⟨g, cap, hv, hg⟩ := hov.form_pos (by rw [H3.out]; decide)
    simp only [Value.slice.injEq] at hv
    obtain ⟨rfl, rfl, rfl⟩ := hv
    have hg1 : w.heap.size + 1 < g := hfv g (mem_foot1.2 rfl)
    have hg2 : g < w1.heap.size := hfl g (mem_foot1.2 rfl)
    have ng0 : ¬ g = w.heap.size := by omega
    have ng1 : ¬ g = w.heap.size + 1 := by omega
    have ng2 : ¬ g = w1.heap.size := by omega
    have ng3 : ¬ w.heap.size = g := by omega
    have ng4 : ¬ w.heap.size + 1 = g := by omega
    have ng5 : ¬ w1.heap.size = g := by omega
    have x0 : w2.cell? ⟨g, k0 * 4, none⟩ = some (.bool true) := hov.cell_ (j := 0) HX.out (by decide)
    have xf0 := hov.frozen_ (k0 * 4)
    have x1 : w2.cell? ⟨g, k0 * 4 + 1, none⟩ = some (.int .i64 pe) := hov.cell_ (j := 1) HX.out (by decide)
    have xf1 := hov.frozen_ (k0 * 4 + 1)
    have x2 : w2.cell? ⟨g, k0 * 4 + 2, none⟩ = some (.bool true) := hov.cell_ (j := 2) HX.out (by decide)
    have xf2 := hov.frozen_ (k0 * 4 + 2)
    have x3 : w2.cell? ⟨g, k0 * 4 + 3, none⟩ = some (.int .i64 ps) := hov.cell_ (j := 3) HX.out (by decide)
    have xf3 := hov.frozen_ (k0 * 4 + 3)
    go_wp2_with (go_at_call 34; refine (isWorker_ct _ _).mono ?_; rintro e w3 ⟨rfl, rfl⟩)
    refine bodyPost_ret (v := .tuple #[.agg #[.int .i64 ep, .slice (some ⟨g, 0, none⟩) l.length d1], .bool true]) (by simp [results, Try.results18, go_sem, r0, r1]) rfl ⟨⟨⟨some ⟨g, 0, none⟩, l.length, d1⟩⟩, by rw [HN.out], ⟨by rw [HN.out]; exact OwL.set_other (OwL.set_other hov (fun hm => by have a := hfv _ hm; have b := hfl _ hm; omega)) (fun hm => by have a := hfv _ hm; have b := hfl _ hm; omega)⟩, fun g hg => by have := hfv g hg; omega, by ((repeat (first | with_reducible exact hB2 | with_reducible refine Below.setCell ?_ ?_ _)); all_goals (simp <;> omega))⟩
  | false =>
  by_cases k3 : pe = e0
  · have HN := Hid.mk_ (look_same k1 k2 HG.out (e := e0) (.inr (.inr k3)))
    have k3' : (pe == e0) = true := by simpa using k3
    clear k3
    show Calls Try.prog 18 #[.agg #[.int .i64 ep, .slice A l.length c], .int .i64 (k0 : Int), .int .i64 e0] _ _
    go_enter Try.func18, Try.ntmps18
    go_wp2_with fail
    refine (copyClock_impl _ ⟨⟨A, l.length, c⟩⟩ ⟨ep, l⟩ ⟨rd_up hr (by repeat (first | exact Below.refl _ _ | refine Below.alloc ?_ (by simp <;> omega) _ | refine below_grow_of ?_ (by simp <;> omega) _ _ | refine Below.drew ?_))⟩ hs).mono ?_
    rintro e w1 ⟨⟨⟨A1, n1, d1⟩⟩, rfl, ho1, hf1, hb1⟩
    have hov1 : OwL FPin 66 w1 (.slice A1 n1 d1) l := ho1.Pins
    have hfv : ∀ g ∈ foot1 (.slice A1 n1 d1), w.heap.size + 1 < g := by intro g hg; have := hf1 g hg; simp at this; omega
    have hfl : ∀ g ∈ foot1 (.slice A1 n1 d1), g < w1.heap.size := foot_lt hov1
    have p0 : w1.cell? ⟨w.heap.size, 0, none⟩ = some (.int .i64 ep) := cell_up hb1 (by simp <;> omega) (by simp [go_sem])
    have p1 : w1.cell? ⟨w.heap.size, 1, none⟩ = some (.slice A l.length c) := cell_up hb1 (by simp <;> omega) (by simp [go_sem])
    have r0 : w1.cell? ⟨w.heap.size + 1, 0, none⟩ = some (.int .i64 0) := cell_up hb1 (by simp <;> omega) (by simp [go_sem])
    have r1 : w1.cell? ⟨w.heap.size + 1, 1, none⟩ = some (.slice none 0 0) := cell_up hb1 (by simp <;> omega) (by simp [go_sem])
    have rf0 : w1.frozen? ⟨w.heap.size + 1, 0, none⟩ = false := frozen_up hb1 (by simp <;> omega) (by simp [go_sem])
    have rf1 : w1.frozen? ⟨w.heap.size + 1, 1, none⟩ = false := frozen_up hb1 (by simp <;> omega) (by simp [go_sem])
    have hz1 : w.heap.size + 1 < w1.heap.size := by have := hb1.size; simp at this; omega
    have hz0 : w.heap.size < w1.heap.size := by omega
    have ne0 : ¬ w1.heap.size = w.heap.size := by omega
    have ne1 : ¬ w1.heap.size = w.heap.size + 1 := by omega
    have ne2 : ¬ w.heap.size = w1.heap.size := by omega
    have ne3 : ¬ w.heap.size + 1 = w1.heap.size := by omega
    have hB1 : Below w.heap.size w w1 := Below.trans (by repeat (first | exact Below.refl _ _ | refine Below.alloc ?_ (by simp <;> omega) _ | refine below_grow_of ?_ (by simp <;> omega) _ _ | refine Below.drew ?_)) (hb1.mono (by simp; omega))
    clear ho1 hf1 hb1
    go_wp2_with fail
    refine (ClockOk_impl _ ⟨⟨A, l.length, c⟩⟩ ⟨ep, l⟩ ⟨rd_up hr (hB1.alloc hB1.size _)⟩).mono ?_
    rw [k1]
    rintro e w2 ⟨rfl, hb2⟩
    have q0 : w2.cell? ⟨w1.heap.size, 0, none⟩ = some (.int .i64 ep) := cell_up hb2 (by simp <;> omega) (by simp [go_sem])
    have q1 : w2.cell? ⟨w1.heap.size, 1, none⟩ = some (.slice A1 n1 d1) := cell_up hb2 (by simp <;> omega) (by simp [go_sem])
    have qf0 : w2.frozen? ⟨w1.heap.size, 0, none⟩ = false := frozen_up hb2 (by simp <;> omega) (by simp [go_sem])
    replace p0 := up2 hb2 (by omega) p0
    replace p1 := up2 hb2 (by omega) p1
    replace r0 := up2 hb2 (by omega) r0
    replace r1 := up2 hb2 (by omega) r1
    replace rf0 := fup2 hb2 (by omega) rf0
    replace rf1 := fup2 hb2 (by omega) rf1
    have hz2 : w1.heap.size < w2.heap.size := by have := hb2.size; simp at this; omega
    have hov : OwL FPin 66 w2 (.slice A1 n1 d1) l := (hov1.alloc_ _).keep (fun g hg => hb2.block g (by have := hfl g (mem_foot1.2 hg); simp; omega))
    have hB2 : Below w.heap.size w w2 := (hB1.alloc hB1.size _).trans (hb2.mono (by simp; omega))
    clear hov1 hb2 hB1
    obtain ⟨g, cap, hv, hg⟩ := hov.form_pos (by rw [H3.out]; decide)
    simp only [Value.slice.injEq] at hv
    obtain ⟨rfl, rfl, rfl⟩ := hv
    have hg1 : w.heap.size + 1 < g := hfv g (mem_foot1.2 rfl)
    have hg2 : g < w1.heap.size := hfl g (mem_foot1.2 rfl)
    have ng0 : ¬ g = w.heap.size := by omega
    have ng1 : ¬ g = w.heap.size + 1 := by omega
    have ng2 : ¬ g = w1.heap.size := by omega
    have ng3 : ¬ w.heap.size = g := by omega
    have ng4 : ¬ w.heap.size + 1 = g := by omega
    have ng5 : ¬ w1.heap.size = g := by omega
    have x0 : w2.cell? ⟨g, k0 * 4, none⟩ = some (.bool true) := hov.cell_ (j := 0) HX.out (by decide)
    have xf0 := hov.frozen_ (k0 * 4)
    have x1 : w2.cell? ⟨g, k0 * 4 + 1, none⟩ = some (.int .i64 pe) := hov.cell_ (j := 1) HX.out (by decide)
    have xf1 := hov.frozen_ (k0 * 4 + 1)
    have x2 : w2.cell? ⟨g, k0 * 4 + 2, none⟩ = some (.bool false) := hov.cell_ (j := 2) HX.out (by decide)
    have xf2 := hov.frozen_ (k0 * 4 + 2)
    have x3 : w2.cell? ⟨g, k0 * 4 + 3, none⟩ = some (.int .i64 ps) := hov.cell_ (j := 3) HX.out (by decide)
    have xf3 := hov.frozen_ (k0 * 4 + 3)
    go_wp2_with (go_at_call 34; refine (isWorker_ct _ _).mono ?_; rintro e w3 ⟨rfl, rfl⟩)
    refine bodyPost_ret (v := .tuple #[.agg #[.int .i64 ep, .slice (some ⟨g, 0, none⟩) l.length d1], .bool true]) (by simp [results, Try.results18, go_sem, r0, r1]) rfl ⟨⟨⟨some ⟨g, 0, none⟩, l.length, d1⟩⟩, by rw [HN.out], ⟨by rw [HN.out]; exact OwL.set_other (OwL.set_other hov (fun hm => by have a := hfv _ hm; have b := hfl _ hm; omega)) (fun hm => by have a := hfv _ hm; have b := hfl _ hm; omega)⟩, fun g hg => by have := hfv g hg; omega, by ((repeat (first | with_reducible exact hB2 | with_reducible refine Below.setCell ?_ ?_ _)); all_goals (simp <;> omega))⟩
  have k3' : (pe == e0) = false := by simpa using k3
  have k3x : ¬ ((⟨true, pe, false, ps⟩ : Pin).On = false ∨ (⟨true, pe, false, ps⟩ : Pin).Marked = true ∨ (⟨true, pe, false, ps⟩ : Pin).Epoch = e0) := by simp; exact k3
  by_cases k4 : ps < 2
  · have HN := Hid.mk_ (look_more k1 k2 HG.out (e := e0) k3x k4)
    have k4' : (ps == 2) = false := by simp; omega
    simp only at HN
    clear k3 k3x
    show Calls Try.prog 18 #[.agg #[.int .i64 ep, .slice A l.length c], .int .i64 (k0 : Int), .int .i64 e0] _ _
    go_enter Try.func18, Try.ntmps18
    go_wp2_with fail
    refine (copyClock_impl _ ⟨⟨A, l.length, c⟩⟩ ⟨ep, l⟩ ⟨rd_up hr (by repeat (first | exact Below.refl _ _ | refine Below.alloc ?_ (by simp <;> omega) _ | refine below_grow_of ?_ (by simp <;> omega) _ _ | refine Below.drew ?_))⟩ hs).mono ?_
    rintro e w1 ⟨⟨⟨A1, n1, d1⟩⟩, rfl, ho1, hf1, hb1⟩
    have hov1 : OwL FPin 66 w1 (.slice A1 n1 d1) l := ho1.Pins
    have hfv : ∀ g ∈ foot1 (.slice A1 n1 d1), w.heap.size + 1 < g := by intro g hg; have := hf1 g hg; simp at this; omega
    have hfl : ∀ g ∈ foot1 (.slice A1 n1 d1), g < w1.heap.size := foot_lt hov1
    have p0 : w1.cell? ⟨w.heap.size, 0, none⟩ = some (.int .i64 ep) := cell_up hb1 (by simp <;> omega) (by simp [go_sem])
    have p1 : w1.cell? ⟨w.heap.size, 1, none⟩ = some (.slice A l.length c) := cell_up hb1 (by simp <;> omega) (by simp [go_sem])
    have r0 : w1.cell? ⟨w.heap.size + 1, 0, none⟩ = some (.int .i64 0) := cell_up hb1 (by simp <;> omega) (by simp [go_sem])
    have r1 : w1.cell? ⟨w.heap.size + 1, 1, none⟩ = some (.slice none 0 0) := cell_up hb1 (by simp <;> omega) (by simp [go_sem])
    have rf0 : w1.frozen? ⟨w.heap.size + 1, 0, none⟩ = false := frozen_up hb1 (by simp <;> omega) (by simp [go_sem])
    have rf1 : w1.frozen? ⟨w.heap.size + 1, 1, none⟩ = false := frozen_up hb1 (by simp <;> omega) (by simp [go_sem])
    have hz1 : w.heap.size + 1 < w1.heap.size := by have := hb1.size; simp at this; omega
    have hz0 : w.heap.size < w1.heap.size := by omega
    have ne0 : ¬ w1.heap.size = w.heap.size := by omega
    have ne1 : ¬ w1.heap.size = w.heap.size + 1 := by omega
    have ne2 : ¬ w.heap.size = w1.heap.size := by omega
    have ne3 : ¬ w.heap.size + 1 = w1.heap.size := by omega
    have hB1 : Below w.heap.size w w1 := Below.trans (by repeat (first | exact Below.refl _ _ | refine Below.alloc ?_ (by simp <;> omega) _ | refine below_grow_of ?_ (by simp <;> omega) _ _ | refine Below.drew ?_)) (hb1.mono (by simp; omega))
    clear ho1 hf1 hb1
    go_wp2_with fail
    refine (ClockOk_impl _ ⟨⟨A, l.length, c⟩⟩ ⟨ep, l⟩ ⟨rd_up hr (hB1.alloc hB1.size _)⟩).mono ?_
    rw [k1]
    rintro e w2 ⟨rfl, hb2⟩
    have q0 : w2.cell? ⟨w1.heap.size, 0, none⟩ = some (.int .i64 ep) := cell_up hb2 (by simp <;> omega) (by simp [go_sem])
    have q1 : w2.cell? ⟨w1.heap.size, 1, none⟩ = some (.slice A1 n1 d1) := cell_up hb2 (by simp <;> omega) (by simp [go_sem])
    have qf0 : w2.frozen? ⟨w1.heap.size, 0, none⟩ = false := frozen_up hb2 (by simp <;> omega) (by simp [go_sem])
    replace p0 := up2 hb2 (by omega) p0
    replace p1 := up2 hb2 (by omega) p1
    replace r0 := up2 hb2 (by omega) r0
    replace r1 := up2 hb2 (by omega) r1
    replace rf0 := fup2 hb2 (by omega) rf0
    replace rf1 := fup2 hb2 (by omega) rf1
    have hz2 : w1.heap.size < w2.heap.size := by have := hb2.size; simp at this; omega
    have hov : OwL FPin 66 w2 (.slice A1 n1 d1) l := (hov1.alloc_ _).keep (fun g hg => hb2.block g (by have := hfl g (mem_foot1.2 hg); simp; omega))
    have hB2 : Below w.heap.size w w2 := (hB1.alloc hB1.size _).trans (hb2.mono (by simp; omega))
    clear hov1 hb2 hB1
    obtain ⟨g, cap, hv, hg⟩ := hov.form_pos (by rw [H3.out]; decide)
    simp only [Value.slice.injEq] at hv
    obtain ⟨rfl, rfl, rfl⟩ := hv
    have hg1 : w.heap.size + 1 < g := hfv g (mem_foot1.2 rfl)
    have hg2 : g < w1.heap.size := hfl g (mem_foot1.2 rfl)
    have ng0 : ¬ g = w.heap.size := by omega
    have ng1 : ¬ g = w.heap.size + 1 := by omega
    have ng2 : ¬ g = w1.heap.size := by omega
    have ng3 : ¬ w.heap.size = g := by omega
    have ng4 : ¬ w.heap.size + 1 = g := by omega
    have ng5 : ¬ w1.heap.size = g := by omega
    have x0 : w2.cell? ⟨g, k0 * 4, none⟩ = some (.bool true) := hov.cell_ (j := 0) HX.out (by decide)
    have xf0 := hov.frozen_ (k0 * 4)
    have x1 : w2.cell? ⟨g, k0 * 4 + 1, none⟩ = some (.int .i64 pe) := hov.cell_ (j := 1) HX.out (by decide)
    have xf1 := hov.frozen_ (k0 * 4 + 1)
    have x2 : w2.cell? ⟨g, k0 * 4 + 2, none⟩ = some (.bool false) := hov.cell_ (j := 2) HX.out (by decide)
    have xf2 := hov.frozen_ (k0 * 4 + 2)
    have x3 : w2.cell? ⟨g, k0 * 4 + 3, none⟩ = some (.int .i64 ps) := hov.cell_ (j := 3) HX.out (by decide)
    have xf3 := hov.frozen_ (k0 * 4 + 3)
    go_wp2_with (go_at_call 34; refine (isWorker_ct _ _).mono ?_; rintro e w3 ⟨rfl, rfl⟩)
    have s0 := hov.set_ (k := k0) (j := 3) (y := (⟨true, pe, false, (ps + 1)⟩ : Pin)) (u := .int .i64 (ps + 1)) HX.out (by decide) rfl
    refine bodyPost_ret (v := .tuple #[.agg #[.int .i64 ep, .slice (some ⟨g, 0, none⟩) l.length d1], .bool false]) (by simp [results, Try.results18, go_sem, r0, r1]) rfl ⟨⟨⟨some ⟨g, 0, none⟩, l.length, d1⟩⟩, by rw [HN.out], ⟨by rw [HN.out]; exact OwL.set_other (OwL.set_other s0 (fun hm => by have a := hfv _ hm; have b := hfl _ hm; omega)) (fun hm => by have a := hfv _ hm; have b := hfl _ hm; omega)⟩, fun g hg => by have := hfv g hg; omega, by ((repeat (first | with_reducible exact hB2 | with_reducible refine Below.setCell ?_ ?_ _)); all_goals (simp <;> omega))⟩
  · have HN := Hid.mk_ (look_mark k1 k2 HG.out (e := e0) k3x k4)
    have k4' : (ps == 2) = true := by simp; omega
    simp only at HN
    clear k3 k3x
    show Calls Try.prog 18 #[.agg #[.int .i64 ep, .slice A l.length c], .int .i64 (k0 : Int), .int .i64 e0] _ _
    go_enter Try.func18, Try.ntmps18
    go_wp2_with fail
    refine (copyClock_impl _ ⟨⟨A, l.length, c⟩⟩ ⟨ep, l⟩ ⟨rd_up hr (by repeat (first | exact Below.refl _ _ | refine Below.alloc ?_ (by simp <;> omega) _ | refine below_grow_of ?_ (by simp <;> omega) _ _ | refine Below.drew ?_))⟩ hs).mono ?_
    rintro e w1 ⟨⟨⟨A1, n1, d1⟩⟩, rfl, ho1, hf1, hb1⟩
    have hov1 : OwL FPin 66 w1 (.slice A1 n1 d1) l := ho1.Pins
    have hfv : ∀ g ∈ foot1 (.slice A1 n1 d1), w.heap.size + 1 < g := by intro g hg; have := hf1 g hg; simp at this; omega
    have hfl : ∀ g ∈ foot1 (.slice A1 n1 d1), g < w1.heap.size := foot_lt hov1
    have p0 : w1.cell? ⟨w.heap.size, 0, none⟩ = some (.int .i64 ep) := cell_up hb1 (by simp <;> omega) (by simp [go_sem])
    have p1 : w1.cell? ⟨w.heap.size, 1, none⟩ = some (.slice A l.length c) := cell_up hb1 (by simp <;> omega) (by simp [go_sem])
    have r0 : w1.cell? ⟨w.heap.size + 1, 0, none⟩ = some (.int .i64 0) := cell_up hb1 (by simp <;> omega) (by simp [go_sem])
    have r1 : w1.cell? ⟨w.heap.size + 1, 1, none⟩ = some (.slice none 0 0) := cell_up hb1 (by simp <;> omega) (by simp [go_sem])
    have rf0 : w1.frozen? ⟨w.heap.size + 1, 0, none⟩ = false := frozen_up hb1 (by simp <;> omega) (by simp [go_sem])
    have rf1 : w1.frozen? ⟨w.heap.size + 1, 1, none⟩ = false := frozen_up hb1 (by simp <;> omega) (by simp [go_sem])
    have hz1 : w.heap.size + 1 < w1.heap.size := by have := hb1.size; simp at this; omega
    have hz0 : w.heap.size < w1.heap.size := by omega
    have ne0 : ¬ w1.heap.size = w.heap.size := by omega
    have ne1 : ¬ w1.heap.size = w.heap.size + 1 := by omega
    have ne2 : ¬ w.heap.size = w1.heap.size := by omega
    have ne3 : ¬ w.heap.size + 1 = w1.heap.size := by omega
    have hB1 : Below w.heap.size w w1 := Below.trans (by repeat (first | exact Below.refl _ _ | refine Below.alloc ?_ (by simp <;> omega) _ | refine below_grow_of ?_ (by simp <;> omega) _ _ | refine Below.drew ?_)) (hb1.mono (by simp; omega))
    clear ho1 hf1 hb1
    go_wp2_with fail
    refine (ClockOk_impl _ ⟨⟨A, l.length, c⟩⟩ ⟨ep, l⟩ ⟨rd_up hr (hB1.alloc hB1.size _)⟩).mono ?_
    rw [k1]
    rintro e w2 ⟨rfl, hb2⟩
    have q0 : w2.cell? ⟨w1.heap.size, 0, none⟩ = some (.int .i64 ep) := cell_up hb2 (by simp <;> omega) (by simp [go_sem])
    have q1 : w2.cell? ⟨w1.heap.size, 1, none⟩ = some (.slice A1 n1 d1) := cell_up hb2 (by simp <;> omega) (by simp [go_sem])
    have qf0 : w2.frozen? ⟨w1.heap.size, 0, none⟩ = false := frozen_up hb2 (by simp <;> omega) (by simp [go_sem])
    replace p0 := up2 hb2 (by omega) p0
    replace p1 := up2 hb2 (by omega) p1
    replace r0 := up2 hb2 (by omega) r0
    replace r1 := up2 hb2 (by omega) r1
    replace rf0 := fup2 hb2 (by omega) rf0
    replace rf1 := fup2 hb2 (by omega) rf1
    have hz2 : w1.heap.size < w2.heap.size := by have := hb2.size; simp at this; omega
    have hov : OwL FPin 66 w2 (.slice A1 n1 d1) l := (hov1.alloc_ _).keep (fun g hg => hb2.block g (by have := hfl g (mem_foot1.2 hg); simp; omega))
    have hB2 : Below w.heap.size w w2 := (hB1.alloc hB1.size _).trans (hb2.mono (by simp; omega))
    clear hov1 hb2 hB1
    obtain ⟨g, cap, hv, hg⟩ := hov.form_pos (by rw [H3.out]; decide)
    simp only [Value.slice.injEq] at hv
    obtain ⟨rfl, rfl, rfl⟩ := hv
    have hg1 : w.heap.size + 1 < g := hfv g (mem_foot1.2 rfl)
    have hg2 : g < w1.heap.size := hfl g (mem_foot1.2 rfl)
    have ng0 : ¬ g = w.heap.size := by omega
    have ng1 : ¬ g = w.heap.size + 1 := by omega
    have ng2 : ¬ g = w1.heap.size := by omega
    have ng3 : ¬ w.heap.size = g := by omega
    have ng4 : ¬ w.heap.size + 1 = g := by omega
    have ng5 : ¬ w1.heap.size = g := by omega
    have x0 : w2.cell? ⟨g, k0 * 4, none⟩ = some (.bool true) := hov.cell_ (j := 0) HX.out (by decide)
    have xf0 := hov.frozen_ (k0 * 4)
    have x1 : w2.cell? ⟨g, k0 * 4 + 1, none⟩ = some (.int .i64 pe) := hov.cell_ (j := 1) HX.out (by decide)
    have xf1 := hov.frozen_ (k0 * 4 + 1)
    have x2 : w2.cell? ⟨g, k0 * 4 + 2, none⟩ = some (.bool false) := hov.cell_ (j := 2) HX.out (by decide)
    have xf2 := hov.frozen_ (k0 * 4 + 2)
    have x3 : w2.cell? ⟨g, k0 * 4 + 3, none⟩ = some (.int .i64 ps) := hov.cell_ (j := 3) HX.out (by decide)
    have xf3 := hov.frozen_ (k0 * 4 + 3)
    go_wp2_with (go_at_call 34; refine (isWorker_ct _ _).mono ?_; rintro e w3 ⟨rfl, rfl⟩)
    have s0 := hov.set_ (k := k0) (j := 3) (y := (⟨true, pe, false, 0⟩ : Pin)) (u := .int .i64 0) HX.out (by decide) rfl
    have s1 := s0.set_ (k := k0) (j := 2) (y := (⟨true, pe, true, 0⟩ : Pin)) (u := .bool true) (set_get (⟨true, pe, false, 0⟩ : Pin) HX.out) (by decide) rfl
    simp only [List.set_set] at s1
    refine bodyPost_ret (v := .tuple #[.agg #[.int .i64 ep, .slice (some ⟨g, 0, none⟩) l.length d1], .bool true]) (by simp [results, Try.results18, go_sem, r0, r1]) rfl ⟨⟨⟨some ⟨g, 0, none⟩, l.length, d1⟩⟩, by rw [HN.out], ⟨by rw [HN.out]; exact OwL.set_other (OwL.set_other s1 (fun hm => by have a := hfv _ hm; have b := hfl _ hm; omega)) (fun hm => by have a := hfv _ hm; have b := hfl _ hm; omega)⟩, fun g hg => by have := hfv g hg; omega, by ((repeat (first | with_reducible exact hB2 | with_reducible refine Below.setCell ?_ ?_ _)); all_goals (simp <;> omega))⟩

set_option maxRecDepth 100000 in
set_option maxHeartbeats 400000 in
theorem LookAt_spec (w : World) (H : HClock) (x : Clock) (wk e0 : Int) (h : RdClock w w.heap.size H x) (hs : x.Pins.length ≤ 1073741824) :
    Calls Try.prog 49 #[.agg #[.int .i64 x.Epoch, .slice H.Pins.a H.Pins.len H.Pins.cap], .int .i64 wk, .int .i64 e0] w fun e w' => ∃ H' : HClock, e = .returned (.tuple #[H'.val (lookC x wk e0).1, .bool (lookC x wk e0).2]) ∧ OwClock w' H' (lookC x wk e0).1 ∧ (∀ g ∈ H'.foot, w.heap.size ≤ g) ∧ Below w.heap.size w w' := by
  obtain ⟨⟨A, n, c⟩⟩ := H
  obtain ⟨ep, l⟩ := x
  have hr : RdL FPin w w.heap.size (.slice A n c) l := h.Pins
  obtain ⟨_, _, hv, q1, q2, qx⟩ := id hr
  simp only [Value.slice.injEq] at hv
  obtain ⟨rfl, rfl, rfl⟩ := hv
  have hlt0 : l.length ≤ 9223372036854775807 := by unfold maxLen at q2; omega
  clear q1 q2 qx h
  simp only at hs
  by_cases k1 : clockOkB ⟨ep, l⟩ = true
  case neg =>
    have k1' : clockOkB ⟨ep, l⟩ = false := (Bool.not_eq_true _).mp k1
    have HN := Hid.mk_ (show lookC ⟨ep, l⟩ wk e0 = (⟨ep, l⟩, false) from if_neg (fun hh => k1 hh.1))
    clear k1
    show Calls Try.prog 49 #[.agg #[.int .i64 ep, .slice A l.length c], .int .i64 wk, .int .i64 e0] _ _
    go_enter Try.func49, Try.ntmps49
    go_wp2_with fail
    refine (copyClock_spec _ ⟨⟨A, l.length, c⟩⟩ ⟨ep, l⟩ ⟨rd_up hr (by repeat (first | exact Below.refl _ _ | refine Below.alloc ?_ (by simp <;> omega) _ | refine below_grow_of ?_ (by simp <;> omega) _ _ | refine Below.drew ?_))⟩ hs).mono ?_
    rintro e w1 ⟨⟨⟨A1, n1, d1⟩⟩, rfl, ho1, hf1, hb1⟩
    have hov1 : OwL FPin 66 w1 (.slice A1 n1 d1) l := ho1.Pins
    have hfv : ∀ g ∈ foot1 (.slice A1 n1 d1), w.heap.size + 1 < g := by intro g hg; have := hf1 g hg; simp at this; omega
    have hfl : ∀ g ∈ foot1 (.slice A1 n1 d1), g < w1.heap.size := foot_lt hov1
    have p0 : w1.cell? ⟨w.heap.size, 0, none⟩ = some (.int .i64 ep) := cell_up hb1 (by simp <;> omega) (by simp [go_sem])
    have p1 : w1.cell? ⟨w.heap.size, 1, none⟩ = some (.slice A l.length c) := cell_up hb1 (by simp <;> omega) (by simp [go_sem])
    have r0 : w1.cell? ⟨w.heap.size + 1, 0, none⟩ = some (.int .i64 0) := cell_up hb1 (by simp <;> omega) (by simp [go_sem])
    have r1 : w1.cell? ⟨w.heap.size + 1, 1, none⟩ = some (.slice none 0 0) := cell_up hb1 (by simp <;> omega) (by simp [go_sem])
    have rf0 : w1.frozen? ⟨w.heap.size + 1, 0, none⟩ = false := frozen_up hb1 (by simp <;> omega) (by simp [go_sem])
    have rf1 : w1.frozen? ⟨w.heap.size + 1, 1, none⟩ = false := frozen_up hb1 (by simp <;> omega) (by simp [go_sem])
    have hz1 : w.heap.size + 1 < w1.heap.size := by have := hb1.size; simp at this; omega
    have hz0 : w.heap.size < w1.heap.size := by omega
    have ne0 : ¬ w1.heap.size = w.heap.size := by omega
    have ne1 : ¬ w1.heap.size = w.heap.size + 1 := by omega
    have ne2 : ¬ w.heap.size = w1.heap.size := by omega
    have ne3 : ¬ w.heap.size + 1 = w1.heap.size := by omega
    have hB1 : Below w.heap.size w w1 := Below.trans (by repeat (first | exact Below.refl _ _ | refine Below.alloc ?_ (by simp <;> omega) _ | refine below_grow_of ?_ (by simp <;> omega) _ _ | refine Below.drew ?_)) (hb1.mono (by simp; omega))
    clear ho1 hf1 hb1
    go_wp2_with fail
    refine (ClockOk_spec _ ⟨⟨A, l.length, c⟩⟩ ⟨ep, l⟩ ⟨rd_up hr (hB1.alloc hB1.size _)⟩).mono ?_
    rw [k1']
    rintro e w2 ⟨rfl, hb2⟩
    have q0 : w2.cell? ⟨w1.heap.size, 0, none⟩ = some (.int .i64 ep) := cell_up hb2 (by simp <;> omega) (by simp [go_sem])
    have q1 : w2.cell? ⟨w1.heap.size, 1, none⟩ = some (.slice A1 n1 d1) := cell_up hb2 (by simp <;> omega) (by simp [go_sem])
    have qf0 : w2.frozen? ⟨w1.heap.size, 0, none⟩ = false := frozen_up hb2 (by simp <;> omega) (by simp [go_sem])
    replace p0 := up2 hb2 (by omega) p0
    replace p1 := up2 hb2 (by omega) p1
    replace r0 := up2 hb2 (by omega) r0
    replace r1 := up2 hb2 (by omega) r1
    replace rf0 := fup2 hb2 (by omega) rf0
    replace rf1 := fup2 hb2 (by omega) rf1
    have hz2 : w1.heap.size < w2.heap.size := by have := hb2.size; simp at this; omega
    have hov : OwL FPin 66 w2 (.slice A1 n1 d1) l := (hov1.alloc_ _).keep (fun g hg => hb2.block g (by have := hfl g (mem_foot1.2 hg); simp; omega))
    have hB2 : Below w.heap.size w w2 := (hB1.alloc hB1.size _).trans (hb2.mono (by simp; omega))
    clear hov1 hb2 hB1
    go_wp2_with (go_at_call 36; refine (l1In_ct _ _ _ _).mono ?_; rintro e w3 ⟨rfl, rfl⟩)
    refine bodyPost_ret (v := .tuple #[.agg #[.int .i64 ep, .slice A1 n1 d1], .bool false]) (by simp [results, Try.results49, go_sem, r0, r1]) rfl ⟨⟨⟨A1, n1, d1⟩⟩, by rw [HN.out], ⟨by rw [HN.out]; exact OwL.set_other (OwL.set_other hov (fun hm => by have a := hfv _ hm; have b := hfl _ hm; omega)) (fun hm => by have a := hfv _ hm; have b := hfl _ hm; omega)⟩, fun g hg => by have := hfv g hg; omega, by ((repeat (first | with_reducible exact hB2 | with_reducible refine Below.setCell ?_ ?_ _)); all_goals (simp <;> omega))⟩
  by_cases k2 : inB 0 2 wk = true
  case neg =>
    have k2' : inB 0 2 wk = false := (Bool.not_eq_true _).mp k2
    have HN := Hid.mk_ (show lookC ⟨ep, l⟩ wk e0 = (⟨ep, l⟩, false) from if_neg (fun hh => k2 hh.2))
    clear k2
    show Calls Try.prog 49 #[.agg #[.int .i64 ep, .slice A l.length c], .int .i64 wk, .int .i64 e0] _ _
    go_enter Try.func49, Try.ntmps49
    go_wp2_with fail
    refine (copyClock_spec _ ⟨⟨A, l.length, c⟩⟩ ⟨ep, l⟩ ⟨rd_up hr (by repeat (first | exact Below.refl _ _ | refine Below.alloc ?_ (by simp <;> omega) _ | refine below_grow_of ?_ (by simp <;> omega) _ _ | refine Below.drew ?_))⟩ hs).mono ?_
    rintro e w1 ⟨⟨⟨A1, n1, d1⟩⟩, rfl, ho1, hf1, hb1⟩
    have hov1 : OwL FPin 66 w1 (.slice A1 n1 d1) l := ho1.Pins
    have hfv : ∀ g ∈ foot1 (.slice A1 n1 d1), w.heap.size + 1 < g := by intro g hg; have := hf1 g hg; simp at this; omega
    have hfl : ∀ g ∈ foot1 (.slice A1 n1 d1), g < w1.heap.size := foot_lt hov1
    have p0 : w1.cell? ⟨w.heap.size, 0, none⟩ = some (.int .i64 ep) := cell_up hb1 (by simp <;> omega) (by simp [go_sem])
    have p1 : w1.cell? ⟨w.heap.size, 1, none⟩ = some (.slice A l.length c) := cell_up hb1 (by simp <;> omega) (by simp [go_sem])
    have r0 : w1.cell? ⟨w.heap.size + 1, 0, none⟩ = some (.int .i64 0) := cell_up hb1 (by simp <;> omega) (by simp [go_sem])
    have r1 : w1.cell? ⟨w.heap.size + 1, 1, none⟩ = some (.slice none 0 0) := cell_up hb1 (by simp <;> omega) (by simp [go_sem])
    have rf0 : w1.frozen? ⟨w.heap.size + 1, 0, none⟩ = false := frozen_up hb1 (by simp <;> omega) (by simp [go_sem])
    have rf1 : w1.frozen? ⟨w.heap.size + 1, 1, none⟩ = false := frozen_up hb1 (by simp <;> omega) (by simp [go_sem])
    have hz1 : w.heap.size + 1 < w1.heap.size := by have := hb1.size; simp at this; omega
    have hz0 : w.heap.size < w1.heap.size := by omega
    have ne0 : ¬ w1.heap.size = w.heap.size := by omega
    have ne1 : ¬ w1.heap.size = w.heap.size + 1 := by omega
    have ne2 : ¬ w.heap.size = w1.heap.size := by omega
    have ne3 : ¬ w.heap.size + 1 = w1.heap.size := by omega
    have hB1 : Below w.heap.size w w1 := Below.trans (by repeat (first | exact Below.refl _ _ | refine Below.alloc ?_ (by simp <;> omega) _ | refine below_grow_of ?_ (by simp <;> omega) _ _ | refine Below.drew ?_)) (hb1.mono (by simp; omega))
    clear ho1 hf1 hb1
    go_wp2_with fail
    refine (ClockOk_spec _ ⟨⟨A, l.length, c⟩⟩ ⟨ep, l⟩ ⟨rd_up hr (hB1.alloc hB1.size _)⟩).mono ?_
    rw [k1]
    rintro e w2 ⟨rfl, hb2⟩
    have q0 : w2.cell? ⟨w1.heap.size, 0, none⟩ = some (.int .i64 ep) := cell_up hb2 (by simp <;> omega) (by simp [go_sem])
    have q1 : w2.cell? ⟨w1.heap.size, 1, none⟩ = some (.slice A1 n1 d1) := cell_up hb2 (by simp <;> omega) (by simp [go_sem])
    have qf0 : w2.frozen? ⟨w1.heap.size, 0, none⟩ = false := frozen_up hb2 (by simp <;> omega) (by simp [go_sem])
    replace p0 := up2 hb2 (by omega) p0
    replace p1 := up2 hb2 (by omega) p1
    replace r0 := up2 hb2 (by omega) r0
    replace r1 := up2 hb2 (by omega) r1
    replace rf0 := fup2 hb2 (by omega) rf0
    replace rf1 := fup2 hb2 (by omega) rf1
    have hz2 : w1.heap.size < w2.heap.size := by have := hb2.size; simp at this; omega
    have hov : OwL FPin 66 w2 (.slice A1 n1 d1) l := (hov1.alloc_ _).keep (fun g hg => hb2.block g (by have := hfl g (mem_foot1.2 hg); simp; omega))
    have hB2 : Below w.heap.size w w2 := (hB1.alloc hB1.size _).trans (hb2.mono (by simp; omega))
    clear hov1 hb2 hB1
    go_wp2_with (go_at_call 36; refine (l1In_ct _ _ _ _).mono ?_; rintro e w3 ⟨rfl, rfl⟩)
    refine bodyPost_ret (v := .tuple #[.agg #[.int .i64 ep, .slice A1 n1 d1], .bool false]) (by simp [results, Try.results49, go_sem, r0, r1]) rfl ⟨⟨⟨A1, n1, d1⟩⟩, by rw [HN.out], ⟨by rw [HN.out]; exact OwL.set_other (OwL.set_other hov (fun hm => by have a := hfv _ hm; have b := hfl _ hm; omega)) (fun hm => by have a := hfv _ hm; have b := hfl _ hm; omega)⟩, fun g hg => by have := hfv g hg; omega, by ((repeat (first | with_reducible exact hB2 | with_reducible refine Below.setCell ?_ ?_ _)); all_goals (simp <;> omega))⟩
  obtain ⟨k0, rfl⟩ := Int.eq_ofNat_of_zero_le (inB_iff.1 k2).1
  have H3 : Hid (l.length = 3) := clockOk_len k1
  have hk0 : k0 < l.length := by rw [H3.out]; have := (inB_iff.1 k2).2; omega
  obtain ⟨p, hp⟩ : ∃ p, l[k0]? = some p := ⟨_, List.getElem?_eq_getElem hk0⟩
  have HG : Hid (l.getD (k0 : Int).toNat pin0 = p) := Hid.mk_ (by rw [Int.toNat_natCast, List.getD, hp]; rfl)
  have HX := Hid.mk_ hp
  clear hp
  have hpb := clockOk_pin k1 HX.out
  simp only at hpb
  obtain ⟨gi, oi, ci, hvi, hgi, _, _, hci⟩ := hr.at_ HX.out
  simp only [Value.slice.injEq] at hvi
  obtain ⟨rfl, _, rfl⟩ := hvi
  have y0 : w.cell? ⟨gi, oi + k0 * 4, none⟩ = some (.bool p.On) := hci 0 _ rfl
  have y1 : w.cell? ⟨gi, oi + k0 * 4 + 1, none⟩ = some (.int .i64 p.Epoch) := hci 1 _ rfl
  have y2 : w.cell? ⟨gi, oi + k0 * 4 + 2, none⟩ = some (.bool p.Marked) := hci 2 _ rfl
  have y3 : w.cell? ⟨gi, oi + k0 * 4 + 3, none⟩ = some (.int .i64 p.Seen) := hci 3 _ rfl
  clear hci
  obtain ⟨on, pe, mk, ps⟩ := p
  simp only at y0 y1 y2 y3
  simp only at hpb
  cases on with
  | false =>
    have HN := Hid.mk_ (look_same k1 k2 HG.out (e := e0) (.inl rfl))
    show Calls Try.prog 49 #[.agg #[.int .i64 ep, .slice (some ⟨gi, oi, none⟩) l.length c], .int .i64 (k0 : Int), .int .i64 e0] _ _
    go_enter Try.func49, Try.ntmps49
    go_wp2_with fail
    refine (copyClock_spec _ ⟨⟨some ⟨gi, oi, none⟩, l.length, c⟩⟩ ⟨ep, l⟩ ⟨rd_up hr (by repeat (first | exact Below.refl _ _ | refine Below.alloc ?_ (by simp <;> omega) _ | refine below_grow_of ?_ (by simp <;> omega) _ _ | refine Below.drew ?_))⟩ hs).mono ?_
    rintro e w1 ⟨⟨⟨A1, n1, d1⟩⟩, rfl, ho1, hf1, hb1⟩
    have hov1 : OwL FPin 66 w1 (.slice A1 n1 d1) l := ho1.Pins
    have hfv : ∀ g ∈ foot1 (.slice A1 n1 d1), w.heap.size + 1 < g := by intro g hg; have := hf1 g hg; simp at this; omega
    have hfl : ∀ g ∈ foot1 (.slice A1 n1 d1), g < w1.heap.size := foot_lt hov1
    have p0 : w1.cell? ⟨w.heap.size, 0, none⟩ = some (.int .i64 ep) := cell_up hb1 (by simp <;> omega) (by simp [go_sem])
    have p1 : w1.cell? ⟨w.heap.size, 1, none⟩ = some (.slice (some ⟨gi, oi, none⟩) l.length c) := cell_up hb1 (by simp <;> omega) (by simp [go_sem])
    have r0 : w1.cell? ⟨w.heap.size + 1, 0, none⟩ = some (.int .i64 0) := cell_up hb1 (by simp <;> omega) (by simp [go_sem])
    have r1 : w1.cell? ⟨w.heap.size + 1, 1, none⟩ = some (.slice none 0 0) := cell_up hb1 (by simp <;> omega) (by simp [go_sem])
    have rf0 : w1.frozen? ⟨w.heap.size + 1, 0, none⟩ = false := frozen_up hb1 (by simp <;> omega) (by simp [go_sem])
    have rf1 : w1.frozen? ⟨w.heap.size + 1, 1, none⟩ = false := frozen_up hb1 (by simp <;> omega) (by simp [go_sem])
    have hz1 : w.heap.size + 1 < w1.heap.size := by have := hb1.size; simp at this; omega
    have hz0 : w.heap.size < w1.heap.size := by omega
    have ne0 : ¬ w1.heap.size = w.heap.size := by omega
    have ne1 : ¬ w1.heap.size = w.heap.size + 1 := by omega
    have ne2 : ¬ w.heap.size = w1.heap.size := by omega
    have ne3 : ¬ w.heap.size + 1 = w1.heap.size := by omega
    have hB1 : Below w.heap.size w w1 := Below.trans (by repeat (first | exact Below.refl _ _ | refine Below.alloc ?_ (by simp <;> omega) _ | refine below_grow_of ?_ (by simp <;> omega) _ _ | refine Below.drew ?_)) (hb1.mono (by simp; omega))
    clear ho1 hf1 hb1
    go_wp2_with fail
    refine (ClockOk_spec _ ⟨⟨some ⟨gi, oi, none⟩, l.length, c⟩⟩ ⟨ep, l⟩ ⟨rd_up hr (hB1.alloc hB1.size _)⟩).mono ?_
    rw [k1]
    rintro e w2 ⟨rfl, hb2⟩
    have q0 : w2.cell? ⟨w1.heap.size, 0, none⟩ = some (.int .i64 ep) := cell_up hb2 (by simp <;> omega) (by simp [go_sem])
    have q1 : w2.cell? ⟨w1.heap.size, 1, none⟩ = some (.slice A1 n1 d1) := cell_up hb2 (by simp <;> omega) (by simp [go_sem])
    have qf0 : w2.frozen? ⟨w1.heap.size, 0, none⟩ = false := frozen_up hb2 (by simp <;> omega) (by simp [go_sem])
    replace p0 := up2 hb2 (by omega) p0
    replace p1 := up2 hb2 (by omega) p1
    replace r0 := up2 hb2 (by omega) r0
    replace r1 := up2 hb2 (by omega) r1
    replace rf0 := fup2 hb2 (by omega) rf0
    replace rf1 := fup2 hb2 (by omega) rf1
    have hz2 : w1.heap.size < w2.heap.size := by have := hb2.size; simp at this; omega
    have hov : OwL FPin 66 w2 (.slice A1 n1 d1) l := (hov1.alloc_ _).keep (fun g hg => hb2.block g (by have := hfl g (mem_foot1.2 hg); simp; omega))
    have hB2 : Below w.heap.size w w2 := (hB1.alloc hB1.size _).trans (hb2.mono (by simp; omega))
    clear hov1 hb2 hB1
    replace y0 := cell_up hB2 hgi y0
    replace y1 := cell_up hB2 hgi y1
    replace y2 := cell_up hB2 hgi y2
    replace y3 := cell_up hB2 hgi y3
    obtain ⟨g, cap, hv, hg⟩ := hov.form_pos (by rw [H3.out]; decide)
    simp only [Value.slice.injEq] at hv
    obtain ⟨rfl, rfl, rfl⟩ := hv
    have hg1 : w.heap.size + 1 < g := hfv g (mem_foot1.2 rfl)
    have hg2 : g < w1.heap.size := hfl g (mem_foot1.2 rfl)
    have ng0 : ¬ g = w.heap.size := by omega
    have ng1 : ¬ g = w.heap.size + 1 := by omega
    have ng2 : ¬ g = w1.heap.size := by omega
    have ng3 : ¬ w.heap.size = g := by omega
    have ng4 : ¬ w.heap.size + 1 = g := by omega
    have ng5 : ¬ w1.heap.size = g := by omega
    have x0 : w2.cell? ⟨g, k0 * 4, none⟩ = some (.bool false) := hov.cell_ (j := 0) HX.out (by decide)
    have xf0 := hov.frozen_ (k0 * 4)
    have x1 : w2.cell? ⟨g, k0 * 4 + 1, none⟩ = some (.int .i64 pe) := hov.cell_ (j := 1) HX.out (by decide)
    have xf1 := hov.frozen_ (k0 * 4 + 1)
    have x2 : w2.cell? ⟨g, k0 * 4 + 2, none⟩ = some (.bool mk) := hov.cell_ (j := 2) HX.out (by decide)
    have xf2 := hov.frozen_ (k0 * 4 + 2)
    have x3 : w2.cell? ⟨g, k0 * 4 + 3, none⟩ = some (.int .i64 ps) := hov.cell_ (j := 3) HX.out (by decide)
    have xf3 := hov.frozen_ (k0 * 4 + 3)
    have hz3 : w.heap.size + 1 < w2.heap.size := by omega
    have hz4 : w.heap.size < w2.heap.size := by omega
    go_wp2_with (go_at_call 36; refine (l1In_ct _ _ _ _).mono ?_; rintro e w3 ⟨rfl, rfl⟩)
    refine bodyPost_ret (v := .tuple #[.agg #[.int .i64 ep, .slice (some ⟨g, 0, none⟩) l.length d1], .bool true]) (by simp [results, Try.results49, go_sem, r0, r1, hz3]) rfl ⟨⟨⟨some ⟨g, 0, none⟩, l.length, d1⟩⟩, by rw [HN.out], ⟨by rw [HN.out]; exact OwL.alloc_ (OwL.set_other (OwL.set_other hov (fun hm => by have a := hfv _ hm; have b := hfl _ hm; omega)) (fun hm => by have a := hfv _ hm; have b := hfl _ hm; omega)) _⟩, fun g hg => by have := hfv g hg; omega, by ((repeat (first | with_reducible exact hB2 | with_reducible refine Below.alloc ?_ ?_ _ | with_reducible refine Below.setCell ?_ ?_ _)); all_goals ((try simp) <;> omega))⟩
  | true =>
  cases mk with
  | true =>
    have HN := Hid.mk_ (look_same k1 k2 HG.out (e := e0) (.inr (.inl rfl)))
    show Calls Try.prog 49 #[.agg #[.int .i64 ep, .slice (some ⟨gi, oi, none⟩) l.length c], .int .i64 (k0 : Int), .int .i64 e0] _ _
    go_enter Try.func49, Try.ntmps49
    go_wp2_with fail
    refine (copyClock_spec _ ⟨⟨some ⟨gi, oi, none⟩, l.length, c⟩⟩ ⟨ep, l⟩ ⟨rd_up hr (by repeat (first | exact Below.refl _ _ | refine Below.alloc ?_ (by simp <;> omega) _ | refine below_grow_of ?_ (by simp <;> omega) _ _ | refine Below.drew ?_))⟩ hs).mono ?_
    rintro e w1 ⟨⟨⟨A1, n1, d1⟩⟩, rfl, ho1, hf1, hb1⟩
    have hov1 : OwL FPin 66 w1 (.slice A1 n1 d1) l := ho1.Pins
    have hfv : ∀ g ∈ foot1 (.slice A1 n1 d1), w.heap.size + 1 < g := by intro g hg; have := hf1 g hg; simp at this; omega
    have hfl : ∀ g ∈ foot1 (.slice A1 n1 d1), g < w1.heap.size := foot_lt hov1
    have p0 : w1.cell? ⟨w.heap.size, 0, none⟩ = some (.int .i64 ep) := cell_up hb1 (by simp <;> omega) (by simp [go_sem])
    have p1 : w1.cell? ⟨w.heap.size, 1, none⟩ = some (.slice (some ⟨gi, oi, none⟩) l.length c) := cell_up hb1 (by simp <;> omega) (by simp [go_sem])
    have r0 : w1.cell? ⟨w.heap.size + 1, 0, none⟩ = some (.int .i64 0) := cell_up hb1 (by simp <;> omega) (by simp [go_sem])
    have r1 : w1.cell? ⟨w.heap.size + 1, 1, none⟩ = some (.slice none 0 0) := cell_up hb1 (by simp <;> omega) (by simp [go_sem])
    have rf0 : w1.frozen? ⟨w.heap.size + 1, 0, none⟩ = false := frozen_up hb1 (by simp <;> omega) (by simp [go_sem])
    have rf1 : w1.frozen? ⟨w.heap.size + 1, 1, none⟩ = false := frozen_up hb1 (by simp <;> omega) (by simp [go_sem])
    have hz1 : w.heap.size + 1 < w1.heap.size := by have := hb1.size; simp at this; omega
    have hz0 : w.heap.size < w1.heap.size := by omega
    have ne0 : ¬ w1.heap.size = w.heap.size := by omega
    have ne1 : ¬ w1.heap.size = w.heap.size + 1 := by omega
    have ne2 : ¬ w.heap.size = w1.heap.size := by omega
    have ne3 : ¬ w.heap.size + 1 = w1.heap.size := by omega
    have hB1 : Below w.heap.size w w1 := Below.trans (by repeat (first | exact Below.refl _ _ | refine Below.alloc ?_ (by simp <;> omega) _ | refine below_grow_of ?_ (by simp <;> omega) _ _ | refine Below.drew ?_)) (hb1.mono (by simp; omega))
    clear ho1 hf1 hb1
    go_wp2_with fail
    refine (ClockOk_spec _ ⟨⟨some ⟨gi, oi, none⟩, l.length, c⟩⟩ ⟨ep, l⟩ ⟨rd_up hr (hB1.alloc hB1.size _)⟩).mono ?_
    rw [k1]
    rintro e w2 ⟨rfl, hb2⟩
    have q0 : w2.cell? ⟨w1.heap.size, 0, none⟩ = some (.int .i64 ep) := cell_up hb2 (by simp <;> omega) (by simp [go_sem])
    have q1 : w2.cell? ⟨w1.heap.size, 1, none⟩ = some (.slice A1 n1 d1) := cell_up hb2 (by simp <;> omega) (by simp [go_sem])
    have qf0 : w2.frozen? ⟨w1.heap.size, 0, none⟩ = false := frozen_up hb2 (by simp <;> omega) (by simp [go_sem])
    replace p0 := up2 hb2 (by omega) p0
    replace p1 := up2 hb2 (by omega) p1
    replace r0 := up2 hb2 (by omega) r0
    replace r1 := up2 hb2 (by omega) r1
    replace rf0 := fup2 hb2 (by omega) rf0
    replace rf1 := fup2 hb2 (by omega) rf1
    have hz2 : w1.heap.size < w2.heap.size := by have := hb2.size; simp at this; omega
    have hov : OwL FPin 66 w2 (.slice A1 n1 d1) l := (hov1.alloc_ _).keep (fun g hg => hb2.block g (by have := hfl g (mem_foot1.2 hg); simp; omega))
    have hB2 : Below w.heap.size w w2 := (hB1.alloc hB1.size _).trans (hb2.mono (by simp; omega))
    clear hov1 hb2 hB1
    replace y0 := cell_up hB2 hgi y0
    replace y1 := cell_up hB2 hgi y1
    replace y2 := cell_up hB2 hgi y2
    replace y3 := cell_up hB2 hgi y3
    obtain ⟨g, cap, hv, hg⟩ := hov.form_pos (by rw [H3.out]; decide)
    simp only [Value.slice.injEq] at hv
    obtain ⟨rfl, rfl, rfl⟩ := hv
    have hg1 : w.heap.size + 1 < g := hfv g (mem_foot1.2 rfl)
    have hg2 : g < w1.heap.size := hfl g (mem_foot1.2 rfl)
    have ng0 : ¬ g = w.heap.size := by omega
    have ng1 : ¬ g = w.heap.size + 1 := by omega
    have ng2 : ¬ g = w1.heap.size := by omega
    have ng3 : ¬ w.heap.size = g := by omega
    have ng4 : ¬ w.heap.size + 1 = g := by omega
    have ng5 : ¬ w1.heap.size = g := by omega
    have x0 : w2.cell? ⟨g, k0 * 4, none⟩ = some (.bool true) := hov.cell_ (j := 0) HX.out (by decide)
    have xf0 := hov.frozen_ (k0 * 4)
    have x1 : w2.cell? ⟨g, k0 * 4 + 1, none⟩ = some (.int .i64 pe) := hov.cell_ (j := 1) HX.out (by decide)
    have xf1 := hov.frozen_ (k0 * 4 + 1)
    have x2 : w2.cell? ⟨g, k0 * 4 + 2, none⟩ = some (.bool true) := hov.cell_ (j := 2) HX.out (by decide)
    have xf2 := hov.frozen_ (k0 * 4 + 2)
    have x3 : w2.cell? ⟨g, k0 * 4 + 3, none⟩ = some (.int .i64 ps) := hov.cell_ (j := 3) HX.out (by decide)
    have xf3 := hov.frozen_ (k0 * 4 + 3)
    have hz3 : w.heap.size + 1 < w2.heap.size := by omega
    have hz4 : w.heap.size < w2.heap.size := by omega
    go_wp2_with (go_at_call 36; refine (l1In_ct _ _ _ _).mono ?_; rintro e w3 ⟨rfl, rfl⟩)
    refine bodyPost_ret (v := .tuple #[.agg #[.int .i64 ep, .slice (some ⟨g, 0, none⟩) l.length d1], .bool true]) (by simp [results, Try.results49, go_sem, r0, r1, hz3]) rfl ⟨⟨⟨some ⟨g, 0, none⟩, l.length, d1⟩⟩, by rw [HN.out], ⟨by rw [HN.out]; exact OwL.alloc_ (OwL.set_other (OwL.set_other hov (fun hm => by have a := hfv _ hm; have b := hfl _ hm; omega)) (fun hm => by have a := hfv _ hm; have b := hfl _ hm; omega)) _⟩, fun g hg => by have := hfv g hg; omega, by ((repeat (first | with_reducible exact hB2 | with_reducible refine Below.alloc ?_ ?_ _ | with_reducible refine Below.setCell ?_ ?_ _)); all_goals ((try simp) <;> omega))⟩
  | false =>
  by_cases k3 : pe = e0
  · have HN := Hid.mk_ (look_same k1 k2 HG.out (e := e0) (.inr (.inr k3)))
    have k3' : (pe == e0) = true := by simpa using k3
    clear k3
    show Calls Try.prog 49 #[.agg #[.int .i64 ep, .slice (some ⟨gi, oi, none⟩) l.length c], .int .i64 (k0 : Int), .int .i64 e0] _ _
    go_enter Try.func49, Try.ntmps49
    go_wp2_with fail
    refine (copyClock_spec _ ⟨⟨some ⟨gi, oi, none⟩, l.length, c⟩⟩ ⟨ep, l⟩ ⟨rd_up hr (by repeat (first | exact Below.refl _ _ | refine Below.alloc ?_ (by simp <;> omega) _ | refine below_grow_of ?_ (by simp <;> omega) _ _ | refine Below.drew ?_))⟩ hs).mono ?_
    rintro e w1 ⟨⟨⟨A1, n1, d1⟩⟩, rfl, ho1, hf1, hb1⟩
    have hov1 : OwL FPin 66 w1 (.slice A1 n1 d1) l := ho1.Pins
    have hfv : ∀ g ∈ foot1 (.slice A1 n1 d1), w.heap.size + 1 < g := by intro g hg; have := hf1 g hg; simp at this; omega
    have hfl : ∀ g ∈ foot1 (.slice A1 n1 d1), g < w1.heap.size := foot_lt hov1
    have p0 : w1.cell? ⟨w.heap.size, 0, none⟩ = some (.int .i64 ep) := cell_up hb1 (by simp <;> omega) (by simp [go_sem])
    have p1 : w1.cell? ⟨w.heap.size, 1, none⟩ = some (.slice (some ⟨gi, oi, none⟩) l.length c) := cell_up hb1 (by simp <;> omega) (by simp [go_sem])
    have r0 : w1.cell? ⟨w.heap.size + 1, 0, none⟩ = some (.int .i64 0) := cell_up hb1 (by simp <;> omega) (by simp [go_sem])
    have r1 : w1.cell? ⟨w.heap.size + 1, 1, none⟩ = some (.slice none 0 0) := cell_up hb1 (by simp <;> omega) (by simp [go_sem])
    have rf0 : w1.frozen? ⟨w.heap.size + 1, 0, none⟩ = false := frozen_up hb1 (by simp <;> omega) (by simp [go_sem])
    have rf1 : w1.frozen? ⟨w.heap.size + 1, 1, none⟩ = false := frozen_up hb1 (by simp <;> omega) (by simp [go_sem])
    have hz1 : w.heap.size + 1 < w1.heap.size := by have := hb1.size; simp at this; omega
    have hz0 : w.heap.size < w1.heap.size := by omega
    have ne0 : ¬ w1.heap.size = w.heap.size := by omega
    have ne1 : ¬ w1.heap.size = w.heap.size + 1 := by omega
    have ne2 : ¬ w.heap.size = w1.heap.size := by omega
    have ne3 : ¬ w.heap.size + 1 = w1.heap.size := by omega
    have hB1 : Below w.heap.size w w1 := Below.trans (by repeat (first | exact Below.refl _ _ | refine Below.alloc ?_ (by simp <;> omega) _ | refine below_grow_of ?_ (by simp <;> omega) _ _ | refine Below.drew ?_)) (hb1.mono (by simp; omega))
    clear ho1 hf1 hb1
    go_wp2_with fail
    refine (ClockOk_spec _ ⟨⟨some ⟨gi, oi, none⟩, l.length, c⟩⟩ ⟨ep, l⟩ ⟨rd_up hr (hB1.alloc hB1.size _)⟩).mono ?_
    rw [k1]
    rintro e w2 ⟨rfl, hb2⟩
    have q0 : w2.cell? ⟨w1.heap.size, 0, none⟩ = some (.int .i64 ep) := cell_up hb2 (by simp <;> omega) (by simp [go_sem])
    have q1 : w2.cell? ⟨w1.heap.size, 1, none⟩ = some (.slice A1 n1 d1) := cell_up hb2 (by simp <;> omega) (by simp [go_sem])
    have qf0 : w2.frozen? ⟨w1.heap.size, 0, none⟩ = false := frozen_up hb2 (by simp <;> omega) (by simp [go_sem])
    replace p0 := up2 hb2 (by omega) p0
    replace p1 := up2 hb2 (by omega) p1
    replace r0 := up2 hb2 (by omega) r0
    replace r1 := up2 hb2 (by omega) r1
    replace rf0 := fup2 hb2 (by omega) rf0
    replace rf1 := fup2 hb2 (by omega) rf1
    have hz2 : w1.heap.size < w2.heap.size := by have := hb2.size; simp at this; omega
    have hov : OwL FPin 66 w2 (.slice A1 n1 d1) l := (hov1.alloc_ _).keep (fun g hg => hb2.block g (by have := hfl g (mem_foot1.2 hg); simp; omega))
    have hB2 : Below w.heap.size w w2 := (hB1.alloc hB1.size _).trans (hb2.mono (by simp; omega))
    clear hov1 hb2 hB1
    replace y0 := cell_up hB2 hgi y0
    replace y1 := cell_up hB2 hgi y1
    replace y2 := cell_up hB2 hgi y2
    replace y3 := cell_up hB2 hgi y3
    obtain ⟨g, cap, hv, hg⟩ := hov.form_pos (by rw [H3.out]; decide)
    simp only [Value.slice.injEq] at hv
    obtain ⟨rfl, rfl, rfl⟩ := hv
    have hg1 : w.heap.size + 1 < g := hfv g (mem_foot1.2 rfl)
    have hg2 : g < w1.heap.size := hfl g (mem_foot1.2 rfl)
    have ng0 : ¬ g = w.heap.size := by omega
    have ng1 : ¬ g = w.heap.size + 1 := by omega
    have ng2 : ¬ g = w1.heap.size := by omega
    have ng3 : ¬ w.heap.size = g := by omega
    have ng4 : ¬ w.heap.size + 1 = g := by omega
    have ng5 : ¬ w1.heap.size = g := by omega
    have x0 : w2.cell? ⟨g, k0 * 4, none⟩ = some (.bool true) := hov.cell_ (j := 0) HX.out (by decide)
    have xf0 := hov.frozen_ (k0 * 4)
    have x1 : w2.cell? ⟨g, k0 * 4 + 1, none⟩ = some (.int .i64 pe) := hov.cell_ (j := 1) HX.out (by decide)
    have xf1 := hov.frozen_ (k0 * 4 + 1)
    have x2 : w2.cell? ⟨g, k0 * 4 + 2, none⟩ = some (.bool false) := hov.cell_ (j := 2) HX.out (by decide)
    have xf2 := hov.frozen_ (k0 * 4 + 2)
    have x3 : w2.cell? ⟨g, k0 * 4 + 3, none⟩ = some (.int .i64 ps) := hov.cell_ (j := 3) HX.out (by decide)
    have xf3 := hov.frozen_ (k0 * 4 + 3)
    have hz3 : w.heap.size + 1 < w2.heap.size := by omega
    have hz4 : w.heap.size < w2.heap.size := by omega
    go_wp2_with (go_at_call 36; refine (l1In_ct _ _ _ _).mono ?_; rintro e w3 ⟨rfl, rfl⟩)
    refine bodyPost_ret (v := .tuple #[.agg #[.int .i64 ep, .slice (some ⟨g, 0, none⟩) l.length d1], .bool true]) (by simp [results, Try.results49, go_sem, r0, r1, hz3]) rfl ⟨⟨⟨some ⟨g, 0, none⟩, l.length, d1⟩⟩, by rw [HN.out], ⟨by rw [HN.out]; exact OwL.alloc_ (OwL.set_other (OwL.set_other hov (fun hm => by have a := hfv _ hm; have b := hfl _ hm; omega)) (fun hm => by have a := hfv _ hm; have b := hfl _ hm; omega)) _⟩, fun g hg => by have := hfv g hg; omega, by ((repeat (first | with_reducible exact hB2 | with_reducible refine Below.alloc ?_ ?_ _ | with_reducible refine Below.setCell ?_ ?_ _)); all_goals ((try simp) <;> omega))⟩
  have k3' : (pe == e0) = false := by simpa using k3
  have k3x : ¬ ((⟨true, pe, false, ps⟩ : Pin).On = false ∨ (⟨true, pe, false, ps⟩ : Pin).Marked = true ∨ (⟨true, pe, false, ps⟩ : Pin).Epoch = e0) := by simp; exact k3
  by_cases k4 : ps < 2
  · have HN := Hid.mk_ (look_more k1 k2 HG.out (e := e0) k3x k4)
    have k4' : (ps == 2) = false := by simp; omega
    simp only at HN
    clear k3 k3x
    show Calls Try.prog 49 #[.agg #[.int .i64 ep, .slice (some ⟨gi, oi, none⟩) l.length c], .int .i64 (k0 : Int), .int .i64 e0] _ _
    go_enter Try.func49, Try.ntmps49
    go_wp2_with fail
    refine (copyClock_spec _ ⟨⟨some ⟨gi, oi, none⟩, l.length, c⟩⟩ ⟨ep, l⟩ ⟨rd_up hr (by repeat (first | exact Below.refl _ _ | refine Below.alloc ?_ (by simp <;> omega) _ | refine below_grow_of ?_ (by simp <;> omega) _ _ | refine Below.drew ?_))⟩ hs).mono ?_
    rintro e w1 ⟨⟨⟨A1, n1, d1⟩⟩, rfl, ho1, hf1, hb1⟩
    have hov1 : OwL FPin 66 w1 (.slice A1 n1 d1) l := ho1.Pins
    have hfv : ∀ g ∈ foot1 (.slice A1 n1 d1), w.heap.size + 1 < g := by intro g hg; have := hf1 g hg; simp at this; omega
    have hfl : ∀ g ∈ foot1 (.slice A1 n1 d1), g < w1.heap.size := foot_lt hov1
    have p0 : w1.cell? ⟨w.heap.size, 0, none⟩ = some (.int .i64 ep) := cell_up hb1 (by simp <;> omega) (by simp [go_sem])
    have p1 : w1.cell? ⟨w.heap.size, 1, none⟩ = some (.slice (some ⟨gi, oi, none⟩) l.length c) := cell_up hb1 (by simp <;> omega) (by simp [go_sem])
    have r0 : w1.cell? ⟨w.heap.size + 1, 0, none⟩ = some (.int .i64 0) := cell_up hb1 (by simp <;> omega) (by simp [go_sem])
    have r1 : w1.cell? ⟨w.heap.size + 1, 1, none⟩ = some (.slice none 0 0) := cell_up hb1 (by simp <;> omega) (by simp [go_sem])
    have rf0 : w1.frozen? ⟨w.heap.size + 1, 0, none⟩ = false := frozen_up hb1 (by simp <;> omega) (by simp [go_sem])
    have rf1 : w1.frozen? ⟨w.heap.size + 1, 1, none⟩ = false := frozen_up hb1 (by simp <;> omega) (by simp [go_sem])
    have hz1 : w.heap.size + 1 < w1.heap.size := by have := hb1.size; simp at this; omega
    have hz0 : w.heap.size < w1.heap.size := by omega
    have ne0 : ¬ w1.heap.size = w.heap.size := by omega
    have ne1 : ¬ w1.heap.size = w.heap.size + 1 := by omega
    have ne2 : ¬ w.heap.size = w1.heap.size := by omega
    have ne3 : ¬ w.heap.size + 1 = w1.heap.size := by omega
    have hB1 : Below w.heap.size w w1 := Below.trans (by repeat (first | exact Below.refl _ _ | refine Below.alloc ?_ (by simp <;> omega) _ | refine below_grow_of ?_ (by simp <;> omega) _ _ | refine Below.drew ?_)) (hb1.mono (by simp; omega))
    clear ho1 hf1 hb1
    go_wp2_with fail
    refine (ClockOk_spec _ ⟨⟨some ⟨gi, oi, none⟩, l.length, c⟩⟩ ⟨ep, l⟩ ⟨rd_up hr (hB1.alloc hB1.size _)⟩).mono ?_
    rw [k1]
    rintro e w2 ⟨rfl, hb2⟩
    have q0 : w2.cell? ⟨w1.heap.size, 0, none⟩ = some (.int .i64 ep) := cell_up hb2 (by simp <;> omega) (by simp [go_sem])
    have q1 : w2.cell? ⟨w1.heap.size, 1, none⟩ = some (.slice A1 n1 d1) := cell_up hb2 (by simp <;> omega) (by simp [go_sem])
    have qf0 : w2.frozen? ⟨w1.heap.size, 0, none⟩ = false := frozen_up hb2 (by simp <;> omega) (by simp [go_sem])
    replace p0 := up2 hb2 (by omega) p0
    replace p1 := up2 hb2 (by omega) p1
    replace r0 := up2 hb2 (by omega) r0
    replace r1 := up2 hb2 (by omega) r1
    replace rf0 := fup2 hb2 (by omega) rf0
    replace rf1 := fup2 hb2 (by omega) rf1
    have hz2 : w1.heap.size < w2.heap.size := by have := hb2.size; simp at this; omega
    have hov : OwL FPin 66 w2 (.slice A1 n1 d1) l := (hov1.alloc_ _).keep (fun g hg => hb2.block g (by have := hfl g (mem_foot1.2 hg); simp; omega))
    have hB2 : Below w.heap.size w w2 := (hB1.alloc hB1.size _).trans (hb2.mono (by simp; omega))
    clear hov1 hb2 hB1
    replace y0 := cell_up hB2 hgi y0
    replace y1 := cell_up hB2 hgi y1
    replace y2 := cell_up hB2 hgi y2
    replace y3 := cell_up hB2 hgi y3
    obtain ⟨g, cap, hv, hg⟩ := hov.form_pos (by rw [H3.out]; decide)
    simp only [Value.slice.injEq] at hv
    obtain ⟨rfl, rfl, rfl⟩ := hv
    have hg1 : w.heap.size + 1 < g := hfv g (mem_foot1.2 rfl)
    have hg2 : g < w1.heap.size := hfl g (mem_foot1.2 rfl)
    have ng0 : ¬ g = w.heap.size := by omega
    have ng1 : ¬ g = w.heap.size + 1 := by omega
    have ng2 : ¬ g = w1.heap.size := by omega
    have ng3 : ¬ w.heap.size = g := by omega
    have ng4 : ¬ w.heap.size + 1 = g := by omega
    have ng5 : ¬ w1.heap.size = g := by omega
    have x0 : w2.cell? ⟨g, k0 * 4, none⟩ = some (.bool true) := hov.cell_ (j := 0) HX.out (by decide)
    have xf0 := hov.frozen_ (k0 * 4)
    have x1 : w2.cell? ⟨g, k0 * 4 + 1, none⟩ = some (.int .i64 pe) := hov.cell_ (j := 1) HX.out (by decide)
    have xf1 := hov.frozen_ (k0 * 4 + 1)
    have x2 : w2.cell? ⟨g, k0 * 4 + 2, none⟩ = some (.bool false) := hov.cell_ (j := 2) HX.out (by decide)
    have xf2 := hov.frozen_ (k0 * 4 + 2)
    have x3 : w2.cell? ⟨g, k0 * 4 + 3, none⟩ = some (.int .i64 ps) := hov.cell_ (j := 3) HX.out (by decide)
    have xf3 := hov.frozen_ (k0 * 4 + 3)
    have hz3 : w.heap.size + 1 < w2.heap.size := by omega
    have hz4 : w.heap.size < w2.heap.size := by omega
    go_wp2_with (go_at_call 36; refine (l1In_ct _ _ _ _).mono ?_; rintro e w3 ⟨rfl, rfl⟩)
    have s0 := hov.set_ (k := k0) (j := 3) (y := (⟨true, pe, false, (ps + 1)⟩ : Pin)) (u := .int .i64 (ps + 1)) HX.out (by decide) rfl
    refine bodyPost_ret (v := .tuple #[.agg #[.int .i64 ep, .slice (some ⟨g, 0, none⟩) l.length d1], .bool false]) (by simp [results, Try.results49, go_sem, r0, r1, hz3]) rfl ⟨⟨⟨some ⟨g, 0, none⟩, l.length, d1⟩⟩, by rw [HN.out], ⟨by rw [HN.out]; exact OwL.alloc_ (OwL.set_other (OwL.set_other s0 (fun hm => by have a := hfv _ hm; have b := hfl _ hm; omega)) (fun hm => by have a := hfv _ hm; have b := hfl _ hm; omega)) _⟩, fun g hg => by have := hfv g hg; omega, by ((repeat (first | with_reducible exact hB2 | with_reducible refine Below.alloc ?_ ?_ _ | with_reducible refine Below.setCell ?_ ?_ _)); all_goals ((try simp) <;> omega))⟩
  · have HN := Hid.mk_ (look_mark k1 k2 HG.out (e := e0) k3x k4)
    have k4' : (ps == 2) = true := by simp; omega
    simp only at HN
    clear k3 k3x
    show Calls Try.prog 49 #[.agg #[.int .i64 ep, .slice (some ⟨gi, oi, none⟩) l.length c], .int .i64 (k0 : Int), .int .i64 e0] _ _
    go_enter Try.func49, Try.ntmps49
    go_wp2_with fail
    refine (copyClock_spec _ ⟨⟨some ⟨gi, oi, none⟩, l.length, c⟩⟩ ⟨ep, l⟩ ⟨rd_up hr (by repeat (first | exact Below.refl _ _ | refine Below.alloc ?_ (by simp <;> omega) _ | refine below_grow_of ?_ (by simp <;> omega) _ _ | refine Below.drew ?_))⟩ hs).mono ?_
    rintro e w1 ⟨⟨⟨A1, n1, d1⟩⟩, rfl, ho1, hf1, hb1⟩
    have hov1 : OwL FPin 66 w1 (.slice A1 n1 d1) l := ho1.Pins
    have hfv : ∀ g ∈ foot1 (.slice A1 n1 d1), w.heap.size + 1 < g := by intro g hg; have := hf1 g hg; simp at this; omega
    have hfl : ∀ g ∈ foot1 (.slice A1 n1 d1), g < w1.heap.size := foot_lt hov1
    have p0 : w1.cell? ⟨w.heap.size, 0, none⟩ = some (.int .i64 ep) := cell_up hb1 (by simp <;> omega) (by simp [go_sem])
    have p1 : w1.cell? ⟨w.heap.size, 1, none⟩ = some (.slice (some ⟨gi, oi, none⟩) l.length c) := cell_up hb1 (by simp <;> omega) (by simp [go_sem])
    have r0 : w1.cell? ⟨w.heap.size + 1, 0, none⟩ = some (.int .i64 0) := cell_up hb1 (by simp <;> omega) (by simp [go_sem])
    have r1 : w1.cell? ⟨w.heap.size + 1, 1, none⟩ = some (.slice none 0 0) := cell_up hb1 (by simp <;> omega) (by simp [go_sem])
    have rf0 : w1.frozen? ⟨w.heap.size + 1, 0, none⟩ = false := frozen_up hb1 (by simp <;> omega) (by simp [go_sem])
    have rf1 : w1.frozen? ⟨w.heap.size + 1, 1, none⟩ = false := frozen_up hb1 (by simp <;> omega) (by simp [go_sem])
    have hz1 : w.heap.size + 1 < w1.heap.size := by have := hb1.size; simp at this; omega
    have hz0 : w.heap.size < w1.heap.size := by omega
    have ne0 : ¬ w1.heap.size = w.heap.size := by omega
    have ne1 : ¬ w1.heap.size = w.heap.size + 1 := by omega
    have ne2 : ¬ w.heap.size = w1.heap.size := by omega
    have ne3 : ¬ w.heap.size + 1 = w1.heap.size := by omega
    have hB1 : Below w.heap.size w w1 := Below.trans (by repeat (first | exact Below.refl _ _ | refine Below.alloc ?_ (by simp <;> omega) _ | refine below_grow_of ?_ (by simp <;> omega) _ _ | refine Below.drew ?_)) (hb1.mono (by simp; omega))
    clear ho1 hf1 hb1
    go_wp2_with fail
    refine (ClockOk_spec _ ⟨⟨some ⟨gi, oi, none⟩, l.length, c⟩⟩ ⟨ep, l⟩ ⟨rd_up hr (hB1.alloc hB1.size _)⟩).mono ?_
    rw [k1]
    rintro e w2 ⟨rfl, hb2⟩
    have q0 : w2.cell? ⟨w1.heap.size, 0, none⟩ = some (.int .i64 ep) := cell_up hb2 (by simp <;> omega) (by simp [go_sem])
    have q1 : w2.cell? ⟨w1.heap.size, 1, none⟩ = some (.slice A1 n1 d1) := cell_up hb2 (by simp <;> omega) (by simp [go_sem])
    have qf0 : w2.frozen? ⟨w1.heap.size, 0, none⟩ = false := frozen_up hb2 (by simp <;> omega) (by simp [go_sem])
    replace p0 := up2 hb2 (by omega) p0
    replace p1 := up2 hb2 (by omega) p1
    replace r0 := up2 hb2 (by omega) r0
    replace r1 := up2 hb2 (by omega) r1
    replace rf0 := fup2 hb2 (by omega) rf0
    replace rf1 := fup2 hb2 (by omega) rf1
    have hz2 : w1.heap.size < w2.heap.size := by have := hb2.size; simp at this; omega
    have hov : OwL FPin 66 w2 (.slice A1 n1 d1) l := (hov1.alloc_ _).keep (fun g hg => hb2.block g (by have := hfl g (mem_foot1.2 hg); simp; omega))
    have hB2 : Below w.heap.size w w2 := (hB1.alloc hB1.size _).trans (hb2.mono (by simp; omega))
    clear hov1 hb2 hB1
    replace y0 := cell_up hB2 hgi y0
    replace y1 := cell_up hB2 hgi y1
    replace y2 := cell_up hB2 hgi y2
    replace y3 := cell_up hB2 hgi y3
    obtain ⟨g, cap, hv, hg⟩ := hov.form_pos (by rw [H3.out]; decide)
    simp only [Value.slice.injEq] at hv
    obtain ⟨rfl, rfl, rfl⟩ := hv
    have hg1 : w.heap.size + 1 < g := hfv g (mem_foot1.2 rfl)
    have hg2 : g < w1.heap.size := hfl g (mem_foot1.2 rfl)
    have ng0 : ¬ g = w.heap.size := by omega
    have ng1 : ¬ g = w.heap.size + 1 := by omega
    have ng2 : ¬ g = w1.heap.size := by omega
    have ng3 : ¬ w.heap.size = g := by omega
    have ng4 : ¬ w.heap.size + 1 = g := by omega
    have ng5 : ¬ w1.heap.size = g := by omega
    have x0 : w2.cell? ⟨g, k0 * 4, none⟩ = some (.bool true) := hov.cell_ (j := 0) HX.out (by decide)
    have xf0 := hov.frozen_ (k0 * 4)
    have x1 : w2.cell? ⟨g, k0 * 4 + 1, none⟩ = some (.int .i64 pe) := hov.cell_ (j := 1) HX.out (by decide)
    have xf1 := hov.frozen_ (k0 * 4 + 1)
    have x2 : w2.cell? ⟨g, k0 * 4 + 2, none⟩ = some (.bool false) := hov.cell_ (j := 2) HX.out (by decide)
    have xf2 := hov.frozen_ (k0 * 4 + 2)
    have x3 : w2.cell? ⟨g, k0 * 4 + 3, none⟩ = some (.int .i64 ps) := hov.cell_ (j := 3) HX.out (by decide)
    have xf3 := hov.frozen_ (k0 * 4 + 3)
    have hz3 : w.heap.size + 1 < w2.heap.size := by omega
    have hz4 : w.heap.size < w2.heap.size := by omega
    go_wp2_with (go_at_call 36; refine (l1In_ct _ _ _ _).mono ?_; rintro e w3 ⟨rfl, rfl⟩)
    have s0 := hov.set_ (k := k0) (j := 3) (y := (⟨true, pe, false, 0⟩ : Pin)) (u := .int .i64 0) HX.out (by decide) rfl
    have s1 := s0.set_ (k := k0) (j := 2) (y := (⟨true, pe, true, 0⟩ : Pin)) (u := .bool true) (set_get (⟨true, pe, false, 0⟩ : Pin) HX.out) (by decide) rfl
    simp only [List.set_set] at s1
    refine bodyPost_ret (v := .tuple #[.agg #[.int .i64 ep, .slice (some ⟨g, 0, none⟩) l.length d1], .bool true]) (by simp [results, Try.results49, go_sem, r0, r1, hz3]) rfl ⟨⟨⟨some ⟨g, 0, none⟩, l.length, d1⟩⟩, by rw [HN.out], ⟨by rw [HN.out]; exact OwL.alloc_ (OwL.set_other (OwL.set_other s1 (fun hm => by have a := hfv _ hm; have b := hfl _ hm; omega)) (fun hm => by have a := hfv _ hm; have b := hfl _ hm; omega)) _⟩, fun g hg => by have := hfv g hg; omega, by ((repeat (first | with_reducible exact hB2 | with_reducible refine Below.alloc ?_ ?_ _ | with_reducible refine Below.setCell ?_ ?_ _)); all_goals ((try simp) <;> omega))⟩

theorem effective_ct (p : Pin) (w : World) : Calls Try.prog 37 #[.agg #[.bool p.On, .int .i64 p.Epoch, .bool p.Marked, .int .i64 p.Seen]] w fun e w' => e = .returned (.bool (p.On && !p.Marked)) ∧ Below w.heap.size w w' := by
  obtain ⟨on, pe, mk, ps⟩ := p
  cases on with
  | false =>
    go_enter Try.func37, Try.ntmps37
    go_wp2
    go_ret
    exact ⟨rfl, by repeat (first | exact Below.refl _ _ | refine Below.alloc ?_ (by simp <;> omega) _ | refine below_grow_of ?_ (by simp <;> omega) _ _ | refine Below.drew ?_)⟩
  | true =>
    go_enter Try.func37, Try.ntmps37
    go_wp2
    go_ret
    exact ⟨rfl, by repeat (first | exact Below.refl _ _ | refine Below.alloc ?_ (by simp <;> omega) _ | refine below_grow_of ?_ (by simp <;> omega) _ _ | refine Below.drew ?_)⟩

set_option maxRecDepth 100000 in
set_option maxHeartbeats 400000 in
theorem PinnedAt_impl (w : World) (H : HClock) (x : Clock) (wk : Int) (h : RdClock w w.heap.size H x) :
    Calls Try.prog 21 #[.agg #[.int .i64 x.Epoch, .slice H.Pins.a H.Pins.len H.Pins.cap], .int .i64 wk] w fun e w' => e = .returned (.tuple #[.int .i64 (pinnedC x wk).1, .bool (pinnedC x wk).2]) ∧ Below w.heap.size w w' := by
  obtain ⟨⟨A, n, c⟩⟩ := H
  obtain ⟨ep, l⟩ := x
  have hr : RdL FPin w w.heap.size (.slice A n c) l := h.Pins
  obtain ⟨_, _, hv, q1, q2, qx⟩ := id hr
  simp only [Value.slice.injEq] at hv
  obtain ⟨rfl, rfl, rfl⟩ := hv
  have hlt0 : l.length ≤ 9223372036854775807 := by unfold maxLen at q2; omega
  clear q1 q2 qx h
  by_cases k1 : clockOkB ⟨ep, l⟩ = true
  case neg =>
    have k1' : clockOkB ⟨ep, l⟩ = false := (Bool.not_eq_true _).mp k1
    have HN := Hid.mk_ (show pinnedC ⟨ep, l⟩ wk = (0, false) from if_neg (fun hh => k1 hh.1))
    clear k1
    show Calls Try.prog 21 #[.agg #[.int .i64 ep, .slice A l.length c], .int .i64 wk] _ _
    go_enter Try.func21, Try.ntmps21
    go_wp2_with fail
    refine (ClockOk_impl _ ⟨⟨A, l.length, c⟩⟩ ⟨ep, l⟩ ⟨rd_up hr (by repeat (first | exact Below.refl _ _ | refine Below.alloc ?_ (by simp <;> omega) _ | refine below_grow_of ?_ (by simp <;> omega) _ _ | refine Below.drew ?_))⟩).mono ?_
    rw [k1']
    rintro e w2 ⟨rfl, hb2⟩
    have p0 : w2.cell? ⟨w.heap.size, 0, none⟩ = some (.int .i64 ep) := cell_up hb2 (by simp <;> omega) (by simp [go_sem])
    have p1 : w2.cell? ⟨w.heap.size, 1, none⟩ = some (.slice A l.length c) := cell_up hb2 (by simp <;> omega) (by simp [go_sem])
    have hB2 : Below w.heap.size w w2 := Below.trans (by repeat (first | exact Below.refl _ _ | refine Below.alloc ?_ (by simp <;> omega) _ | refine below_grow_of ?_ (by simp <;> omega) _ _ | refine Below.drew ?_)) (hb2.mono (by simp))
    go_wp2_with (go_at_call 34; refine (isWorker_ct _ _).mono ?_; rintro e w3 ⟨rfl, rfl⟩)
    go_ret2
    exact ⟨ret_ib (by rw [HN.out]), hB2⟩
  by_cases k2 : inB 0 2 wk = true
  case neg =>
    have k2' : inB 0 2 wk = false := (Bool.not_eq_true _).mp k2
    have HN := Hid.mk_ (show pinnedC ⟨ep, l⟩ wk = (0, false) from if_neg (fun hh => k2 hh.2.1))
    clear k2
    show Calls Try.prog 21 #[.agg #[.int .i64 ep, .slice A l.length c], .int .i64 wk] _ _
    go_enter Try.func21, Try.ntmps21
    go_wp2_with fail
    refine (ClockOk_impl _ ⟨⟨A, l.length, c⟩⟩ ⟨ep, l⟩ ⟨rd_up hr (by repeat (first | exact Below.refl _ _ | refine Below.alloc ?_ (by simp <;> omega) _ | refine below_grow_of ?_ (by simp <;> omega) _ _ | refine Below.drew ?_))⟩).mono ?_
    rw [k1]
    rintro e w2 ⟨rfl, hb2⟩
    have p0 : w2.cell? ⟨w.heap.size, 0, none⟩ = some (.int .i64 ep) := cell_up hb2 (by simp <;> omega) (by simp [go_sem])
    have p1 : w2.cell? ⟨w.heap.size, 1, none⟩ = some (.slice A l.length c) := cell_up hb2 (by simp <;> omega) (by simp [go_sem])
    have hB2 : Below w.heap.size w w2 := Below.trans (by repeat (first | exact Below.refl _ _ | refine Below.alloc ?_ (by simp <;> omega) _ | refine below_grow_of ?_ (by simp <;> omega) _ _ | refine Below.drew ?_)) (hb2.mono (by simp))
    go_wp2_with (go_at_call 34; refine (isWorker_ct _ _).mono ?_; rintro e w3 ⟨rfl, rfl⟩)
    go_ret2
    exact ⟨ret_ib (by rw [HN.out]), hB2⟩
  obtain ⟨k0, rfl⟩ := Int.eq_ofNat_of_zero_le (inB_iff.1 k2).1
  have H3 : Hid (l.length = 3) := clockOk_len k1
  have hk0 : k0 < l.length := by rw [H3.out]; have := (inB_iff.1 k2).2; omega
  obtain ⟨p, hp⟩ : ∃ p, l[k0]? = some p := ⟨_, List.getElem?_eq_getElem hk0⟩
  have HG : Hid (l.getD (k0 : Int).toNat pin0 = p) := Hid.mk_ (by rw [Int.toNat_natCast, List.getD, hp]; rfl)
  have HX := Hid.mk_ hp
  clear hp
  obtain ⟨gi, oi, ci, hvi, hgi, _, _, hci⟩ := hr.at_ HX.out
  simp only [Value.slice.injEq] at hvi
  obtain ⟨rfl, _, rfl⟩ := hvi
  have y0 : w.cell? ⟨gi, oi + k0 * 4, none⟩ = some (.bool p.On) := hci 0 _ rfl
  have y1 : w.cell? ⟨gi, oi + k0 * 4 + 1, none⟩ = some (.int .i64 p.Epoch) := hci 1 _ rfl
  have y2 : w.cell? ⟨gi, oi + k0 * 4 + 2, none⟩ = some (.bool p.Marked) := hci 2 _ rfl
  have y3 : w.cell? ⟨gi, oi + k0 * 4 + 3, none⟩ = some (.int .i64 p.Seen) := hci 3 _ rfl
  clear hci
  obtain ⟨on, pe, mk, ps⟩ := p
  simp only at y0 y1 y2 y3
  cases on with
  | false =>
    have HN := Hid.mk_ (show pinnedC ⟨ep, l⟩ (k0 : Int) = (0, false) from if_neg (fun hh => by have a := hh.2.2.1; rw [HG.out] at a; cases a))
    show Calls Try.prog 21 #[.agg #[.int .i64 ep, .slice (some ⟨gi, oi, none⟩) l.length c], .int .i64 (k0 : Int)] _ _
    go_enter Try.func21, Try.ntmps21
    go_wp2_with fail
    refine (ClockOk_impl _ ⟨⟨some ⟨gi, oi, none⟩, l.length, c⟩⟩ ⟨ep, l⟩ ⟨rd_up hr (by repeat (first | exact Below.refl _ _ | refine Below.alloc ?_ (by simp <;> omega) _ | refine below_grow_of ?_ (by simp <;> omega) _ _ | refine Below.drew ?_))⟩).mono ?_
    rw [k1]
    rintro e w2 ⟨rfl, hb2⟩
    have p0 : w2.cell? ⟨w.heap.size, 0, none⟩ = some (.int .i64 ep) := cell_up hb2 (by simp <;> omega) (by simp [go_sem])
    have p1 : w2.cell? ⟨w.heap.size, 1, none⟩ = some (.slice (some ⟨gi, oi, none⟩) l.length c) := cell_up hb2 (by simp <;> omega) (by simp [go_sem])
    have hB2 : Below w.heap.size w w2 := Below.trans (by repeat (first | exact Below.refl _ _ | refine Below.alloc ?_ (by simp <;> omega) _ | refine below_grow_of ?_ (by simp <;> omega) _ _ | refine Below.drew ?_)) (hb2.mono (by simp))
    replace y0 := cell_up hB2 hgi y0
    replace y1 := cell_up hB2 hgi y1
    replace y2 := cell_up hB2 hgi y2
    replace y3 := cell_up hB2 hgi y3
    have hzg : gi < w2.heap.size := Nat.lt_of_lt_of_le hgi hB2.size
    have hzw : w.heap.size < w2.heap.size := by have := hb2.size; simp at this; omega
    go_wp2_with (first | (go_at_call 34; refine (isWorker_ct _ _).mono ?_; rintro e w3 ⟨rfl, rfl⟩) | (go_at_call 37; refine (effective_ct ⟨false, pe, mk, ps⟩ _).mono ?_; rintro e w4 ⟨rfl, hb4⟩; have q1 := cell_up hb4 hzw p1; have x1 := cell_up hb4 hzg y1; have hB4 := hB2.trans (hb4.mono hB2.size)))
    go_ret2
    exact ⟨ret_ib (by rw [HN.out]), hB4⟩
  | true =>
  cases mk with
  | true =>
    have HN := Hid.mk_ (show pinnedC ⟨ep, l⟩ (k0 : Int) = (0, false) from if_neg (fun hh => by have a := hh.2.2.2; rw [HG.out] at a; cases a))
    show Calls Try.prog 21 #[.agg #[.int .i64 ep, .slice (some ⟨gi, oi, none⟩) l.length c], .int .i64 (k0 : Int)] _ _
    go_enter Try.func21, Try.ntmps21
    go_wp2_with fail
    refine (ClockOk_impl _ ⟨⟨some ⟨gi, oi, none⟩, l.length, c⟩⟩ ⟨ep, l⟩ ⟨rd_up hr (by repeat (first | exact Below.refl _ _ | refine Below.alloc ?_ (by simp <;> omega) _ | refine below_grow_of ?_ (by simp <;> omega) _ _ | refine Below.drew ?_))⟩).mono ?_
    rw [k1]
    rintro e w2 ⟨rfl, hb2⟩
    have p0 : w2.cell? ⟨w.heap.size, 0, none⟩ = some (.int .i64 ep) := cell_up hb2 (by simp <;> omega) (by simp [go_sem])
    have p1 : w2.cell? ⟨w.heap.size, 1, none⟩ = some (.slice (some ⟨gi, oi, none⟩) l.length c) := cell_up hb2 (by simp <;> omega) (by simp [go_sem])
    have hB2 : Below w.heap.size w w2 := Below.trans (by repeat (first | exact Below.refl _ _ | refine Below.alloc ?_ (by simp <;> omega) _ | refine below_grow_of ?_ (by simp <;> omega) _ _ | refine Below.drew ?_)) (hb2.mono (by simp))
    replace y0 := cell_up hB2 hgi y0
    replace y1 := cell_up hB2 hgi y1
    replace y2 := cell_up hB2 hgi y2
    replace y3 := cell_up hB2 hgi y3
    have hzg : gi < w2.heap.size := Nat.lt_of_lt_of_le hgi hB2.size
    have hzw : w.heap.size < w2.heap.size := by have := hb2.size; simp at this; omega
    go_wp2_with (first | (go_at_call 34; refine (isWorker_ct _ _).mono ?_; rintro e w3 ⟨rfl, rfl⟩) | (go_at_call 37; refine (effective_ct ⟨true, pe, true, ps⟩ _).mono ?_; rintro e w4 ⟨rfl, hb4⟩; have q1 := cell_up hb4 hzw p1; have x1 := cell_up hb4 hzg y1; have hB4 := hB2.trans (hb4.mono hB2.size)))
    go_ret2
    exact ⟨ret_ib (by rw [HN.out]), hB4⟩
  | false =>
    have HN := Hid.mk_ (show pinnedC ⟨ep, l⟩ (k0 : Int) = (pe, true) by unfold pinnedC; rw [HG.out]; exact if_pos ⟨k1, k2, rfl, rfl⟩)
    show Calls Try.prog 21 #[.agg #[.int .i64 ep, .slice (some ⟨gi, oi, none⟩) l.length c], .int .i64 (k0 : Int)] _ _
    go_enter Try.func21, Try.ntmps21
    go_wp2_with fail
    refine (ClockOk_impl _ ⟨⟨some ⟨gi, oi, none⟩, l.length, c⟩⟩ ⟨ep, l⟩ ⟨rd_up hr (by repeat (first | exact Below.refl _ _ | refine Below.alloc ?_ (by simp <;> omega) _ | refine below_grow_of ?_ (by simp <;> omega) _ _ | refine Below.drew ?_))⟩).mono ?_
    rw [k1]
    rintro e w2 ⟨rfl, hb2⟩
    have p0 : w2.cell? ⟨w.heap.size, 0, none⟩ = some (.int .i64 ep) := cell_up hb2 (by simp <;> omega) (by simp [go_sem])
    have p1 : w2.cell? ⟨w.heap.size, 1, none⟩ = some (.slice (some ⟨gi, oi, none⟩) l.length c) := cell_up hb2 (by simp <;> omega) (by simp [go_sem])
    have hB2 : Below w.heap.size w w2 := Below.trans (by repeat (first | exact Below.refl _ _ | refine Below.alloc ?_ (by simp <;> omega) _ | refine below_grow_of ?_ (by simp <;> omega) _ _ | refine Below.drew ?_)) (hb2.mono (by simp))
    replace y0 := cell_up hB2 hgi y0
    replace y1 := cell_up hB2 hgi y1
    replace y2 := cell_up hB2 hgi y2
    replace y3 := cell_up hB2 hgi y3
    have hzg : gi < w2.heap.size := Nat.lt_of_lt_of_le hgi hB2.size
    have hzw : w.heap.size < w2.heap.size := by have := hb2.size; simp at this; omega
    go_wp2_with (first | (go_at_call 34; refine (isWorker_ct _ _).mono ?_; rintro e w3 ⟨rfl, rfl⟩) | (go_at_call 37; refine (effective_ct ⟨true, pe, false, ps⟩ _).mono ?_; rintro e w4 ⟨rfl, hb4⟩; have q1 := cell_up hb4 hzw p1; have x1 := cell_up hb4 hzg y1; have hB4 := hB2.trans (hb4.mono hB2.size)))
    go_ret2
    exact ⟨ret_ib (by rw [HN.out]), hB4⟩

end Go.Proofs.Ytapmieijnbachaa