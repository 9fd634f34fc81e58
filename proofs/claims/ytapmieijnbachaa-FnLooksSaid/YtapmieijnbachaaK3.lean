/-
  Clocks bumped and pinned: the contracts.
-/
import Derived.Test.YtapmieijnbachaaT
import Derived.Test.YtapmieijnbachaaL
import Derived.Deep.QuietTactic
import Derived.BigQuiet
import Derived.Deep.LoopGhost
import Derived.Deep.RegionHeld3
import Derived.Test.YtapmieijnbachaaN
import Derived.Test.YtapmieijnbachaaA
import Derived.WalkSpells
import Derived.Laws.Cover3
import Derived.Test.YtapmieijnbachaaK2
import Derived.Deep.RegionLaw
namespace Go.Proofs.Ytapmieijnbachaa
open Go.RowKit

theorem OwL.form_pos {α : Type} {T : FT α} {e : TypeId} {w : World} {v : Value} {l : List α} (h : OwL T e w v l) (hl : 0 < l.length) : ∃ g cap, v = .slice (some ⟨g, 0, none⟩) l.length cap ∧ g < w.heap.size := by
  rcases h.form with ⟨_, rfl⟩ | ⟨g, cap, hv, hg, _, _⟩
  · simp at hl
  · exact ⟨g, cap, hv, hg⟩
theorem frozen_up {w w' : World} {g i : Nat} {b : Bool} (hb : Below w.heap.size w w') (hg : g < w.heap.size) (h : w.frozen? ⟨g, i, none⟩ = b) : w'.frozen? ⟨g, i, none⟩ = b := (hb.frozen (p := ⟨g, i, none⟩) hg).trans h
theorem up2 {w1 w2 : World} {o : Obj} {g i : Nat} {u : Value} (hb : Below (w1.alloc o).heap.size (w1.alloc o) w2) (hg : g < w1.heap.size) (h : w1.cell? ⟨g, i, none⟩ = some u) : w2.cell? ⟨g, i, none⟩ = some u := cell_up hb (by simp; omega) ((cell_old w1 o g i hg).trans h)
theorem fup2 {w1 w2 : World} {o : Obj} {g i : Nat} {b : Bool} (hb : Below (w1.alloc o).heap.size (w1.alloc o) w2) (hg : g < w1.heap.size) (h : w1.frozen? ⟨g, i, none⟩ = b) : w2.frozen? ⟨g, i, none⟩ = b := frozen_up hb (by simp; omega) ((cell_old_frozen w1 o g i hg).trans h)
theorem OwL.set_other {α : Type} {T : FT α} {e : TypeId} {w : World} {v : Value} {l : List α} (h : OwL T e w v l) {g i : Nat} {u : Value} (hg : g ∉ foot1 v) : OwL T e (w.setCell ⟨g, i, none⟩ u) v l :=
  h.keep fun b hb => Below.heap_setCell _ _ _ _ (fun e => by have e' : b = g := e; exact hg (e' ▸ mem_foot1.2 hb))

def noC {β : Type} (x : Clock) (b : β) : Clock × β := (x, b)
def pinToC (x : Clock) (wk e : Int) : Clock × Bool := if clockOkB x = true ∧ inB 0 2 wk = true ∧ inB 0 x.Epoch e = true then (⟨x.Epoch, x.Pins.set wk.toNat ⟨true, e, false, 0⟩⟩, true) else (x, false)
def unpinC (x : Clock) (wk : Int) : Clock × Bool := if clockOkB x = true ∧ inB 0 2 wk = true ∧ (x.Pins.getD wk.toNat pin0).On = true then (⟨x.Epoch, x.Pins.set wk.toNat pin0⟩, true) else (x, false)
def bumpC (x : Clock) (e : Int) : Clock × Bool := if clockOkB x = true ∧ x.Epoch = e ∧ e ≠ 100000 then (⟨e + 1, x.Pins⟩, true) else (x, false)

theorem clockOk_ep {x : Clock} (h : clockOkB x = true) : 0 ≤ x.Epoch ∧ x.Epoch ≤ 100000 := by
  simp only [clockOkB, Bool.and_eq_true] at h
  exact inB_iff.1 h.1.1

set_option maxRecDepth 100000 in
set_option maxHeartbeats 400000 in
theorem Bump_impl (w : World) (H : HClock) (x : Clock) (e0 : Int) (be : I64 e0) (h : RdClock w w.heap.size H x) (hs : x.Pins.length ≤ 1073741824) :
    Calls Try.prog 19 #[.agg #[.int .i64 x.Epoch, .slice H.Pins.a H.Pins.len H.Pins.cap], .int .i64 e0] w fun e w' => ∃ H' : HClock, e = .returned (.tuple #[H'.val (bumpC x e0).1, .bool (bumpC x e0).2]) ∧ OwClock w' H' (bumpC x e0).1 ∧ (∀ g ∈ H'.foot, w.heap.size ≤ g) ∧ Below w.heap.size w w' := by
  obtain ⟨⟨A, n, c⟩⟩ := H
  obtain ⟨ep, l⟩ := x
  have hr : RdL FPin w w.heap.size (.slice A n c) l := h.Pins
  obtain ⟨_, _, hv, q1, q2, qx⟩ := id hr
  simp only [Value.slice.injEq] at hv
  obtain ⟨rfl, rfl, rfl⟩ := hv
  have hlt0 : l.length ≤ 9223372036854775807 := by unfold maxLen at q2; omega
  clear q1 q2 qx h
  simp only at hs
  unfold I64 at be
  by_cases k1 : clockOkB ⟨ep, l⟩ = true
  case neg =>
    have k1' : clockOkB ⟨ep, l⟩ = false := (Bool.not_eq_true _).mp k1
    have HN := Hid.mk_ (show bumpC ⟨ep, l⟩ e0 = (⟨ep, l⟩, false) from if_neg (fun hh => k1 hh.1))
    clear k1
    show Calls Try.prog 19 #[.agg #[.int .i64 ep, .slice A l.length c], .int .i64 e0] _ _
    go_enter Try.func19, Try.ntmps19
    go_wp2_with fail
    refine (copyClock_impl _ ⟨⟨A, l.length, c⟩⟩ ⟨ep, l⟩ ⟨rd_up hr (by repeat (first | exact Below.refl _ _ | refine Below.alloc ?_ (by simp <;> omega) _ | refine below_grow_of ?_ (by simp <;> omega) _ _ | refine Below.drew ?_))⟩ hs).mono ?_
    rintro e w1 ⟨⟨⟨A1, n1, d1⟩⟩, rfl, ho1, hf1, hb1⟩
    have hov1 : OwL FPin 66 w1 (.slice A1 n1 d1) l := ho1.Pins
    have hfv : ∀ g ∈ foot1 (.slice A1 n1 d1), w.heap.size + 1 < g := by intro g hg; have := hf1 g hg; simp at this; omega
    have hfl : ∀ g ∈ foot1 (.slice A1 n1 d1), g < w1.heap.size := foot_lt hov1
    have p0 : w1.cell? ⟨w.heap.size, 0, none⟩ = some (.int .i64 ep) := cell_up hb1 (by simp <;> omega) (by simp [go_sem])
    have p1 : w1.cell? ⟨w.heap.size, 1, none⟩ = some (.slice A l.length c) := cell_up hb1 (by simp <;> omega) (by simp [go_sem])
    have r0 : w1.cell? ⟨w.heap.size + 1, 0, none⟩ = some (.int .i64 0) := cell_up hb1 (by simp <;> omega) (by simp [go_sem])
    have r1 : w1.cell? ⟨w.heap.size + 1, 1, none⟩ = some (.slice none 0 0) := cell_up hb1 (by simp <;> omega) (by simp [go_sem])
    have rf0 : w1.frozen? ⟨w.heap.size + 1, 0, none⟩ = false := frozen_up hb1 (by simp <;> omega) (by simp [go_sem])
    have rf1 : w1.frozen? ⟨w.heap.size + 1, 1, none⟩ = false := frozen_up hb1 (by simp <;> omega) (by simp [go_sem])
    have hz1 : w.heap.size + 1 < w1.heap.size := by have := hb1.size; simp at this; omega
    have hz0 : w.heap.size < w1.heap.size := by omega
    have ne0 : ¬ w1.heap.size = w.heap.size := by omega
    have ne1 : ¬ w1.heap.size = w.heap.size + 1 := by omega
    have ne2 : ¬ w.heap.size = w1.heap.size := by omega
    have ne3 : ¬ w.heap.size + 1 = w1.heap.size := by omega
    have hB1 : Below w.heap.size w w1 := Below.trans (by repeat (first | exact Below.refl _ _ | refine Below.alloc ?_ (by simp <;> omega) _ | refine below_grow_of ?_ (by simp <;> omega) _ _ | refine Below.drew ?_)) (hb1.mono (by simp; omega))
    clear ho1 hf1 hb1
    go_wp2_with fail
    refine (ClockOk_impl _ ⟨⟨A, l.length, c⟩⟩ ⟨ep, l⟩ ⟨rd_up hr (hB1.alloc hB1.size _)⟩).mono ?_
    rw [k1']
    rintro e w2 ⟨rfl, hb2⟩
    have q0 : w2.cell? ⟨w1.heap.size, 0, none⟩ = some (.int .i64 ep) := cell_up hb2 (by simp <;> omega) (by simp [go_sem])
    have q1 : w2.cell? ⟨w1.heap.size, 1, none⟩ = some (.slice A1 n1 d1) := cell_up hb2 (by simp <;> omega) (by simp [go_sem])
    have qf0 : w2.frozen? ⟨w1.heap.size, 0, none⟩ = false := frozen_up hb2 (by simp <;> omega) (by simp [go_sem])
    replace p0 := up2 hb2 (by omega) p0
    replace p1 := up2 hb2 (by omega) p1
    replace r0 := up2 hb2 (by omega) r0
    replace r1 := up2 hb2 (by omega) r1
    replace rf0 := fup2 hb2 (by omega) rf0
    replace rf1 := fup2 hb2 (by omega) rf1
    have hz2 : w1.heap.size < w2.heap.size := by have := hb2.size; simp at this; omega
    have hov : OwL FPin 66 w2 (.slice A1 n1 d1) l := (hov1.alloc_ _).keep (fun g hg => hb2.block g (by have := hfl g (mem_foot1.2 hg); simp; omega))
    have hB2 : Below w.heap.size w w2 := (hB1.alloc hB1.size _).trans (hb2.mono (by simp; omega))
    clear hov1 hb2 hB1
    go_wp2_with fail
    refine bodyPost_ret (v := .tuple #[.agg #[.int .i64 ep, .slice A1 n1 d1], .bool false]) (by simp [results, Try.results19, go_sem, r0, r1]) rfl ⟨⟨⟨A1, n1, d1⟩⟩, by rw [HN.out], ⟨by rw [HN.out]; exact OwL.set_other (OwL.set_other hov (fun hm => by have a := hfv _ hm; have b := hfl _ hm; omega)) (fun hm => by have a := hfv _ hm; have b := hfl _ hm; omega)⟩, fun g hg => by have := hfv g hg; omega, by ((repeat (first | with_reducible exact hB2 | with_reducible refine Below.setCell ?_ ?_ _)); all_goals (simp <;> omega))⟩
  by_cases k2 : ep = e0
  case neg =>
    have k2' : (ep != e0) = true := by simpa using k2
    have HN := Hid.mk_ (show bumpC ⟨ep, l⟩ e0 = (⟨ep, l⟩, false) from if_neg (fun hh => k2 hh.2.1))
    clear k2
    show Calls Try.prog 19 #[.agg #[.int .i64 ep, .slice A l.length c], .int .i64 e0] _ _
    go_enter Try.func19, Try.ntmps19
    go_wp2_with fail
    refine (copyClock_impl _ ⟨⟨A, l.length, c⟩⟩ ⟨ep, l⟩ ⟨rd_up hr (by repeat (first | exact Below.refl _ _ | refine Below.alloc ?_ (by simp <;> omega) _ | refine below_grow_of ?_ (by simp <;> omega) _ _ | refine Below.drew ?_))⟩ hs).mono ?_
    rintro e w1 ⟨⟨⟨A1, n1, d1⟩⟩, rfl, ho1, hf1, hb1⟩
    have hov1 : OwL FPin 66 w1 (.slice A1 n1 d1) l := ho1.Pins
    have hfv : ∀ g ∈ foot1 (.slice A1 n1 d1), w.heap.size + 1 < g := by intro g hg; have := hf1 g hg; simp at this; omega
    have hfl : ∀ g ∈ foot1 (.slice A1 n1 d1), g < w1.heap.size := foot_lt hov1
    have p0 : w1.cell? ⟨w.heap.size, 0, none⟩ = some (.int .i64 ep) := cell_up hb1 (by simp <;> omega) (by simp [go_sem])
    have p1 : w1.cell? ⟨w.heap.size, 1, none⟩ = some (.slice A l.length c) := cell_up hb1 (by simp <;> omega) (by simp [go_sem])
    have r0 : w1.cell? ⟨w.heap.size + 1, 0, none⟩ = some (.int .i64 0) := cell_up hb1 (by simp <;> omega) (by simp [go_sem])
    have r1 : w1.cell? ⟨w.heap.size + 1, 1, none⟩ = some (.slice none 0 0) := cell_up hb1 (by simp <;> omega) (by simp [go_sem])
    have rf0 : w1.frozen? ⟨w.heap.size + 1, 0, none⟩ = false := frozen_up hb1 (by simp <;> omega) (by simp [go_sem])
    have rf1 : w1.frozen? ⟨w.heap.size + 1, 1, none⟩ = false := frozen_up hb1 (by simp <;> omega) (by simp [go_sem])
    have hz1 : w.heap.size + 1 < w1.heap.size := by have := hb1.size; simp at this; omega
    have hz0 : w.heap.size < w1.heap.size := by omega
    have ne0 : ¬ w1.heap.size = w.heap.size := by omega
    have ne1 : ¬ w1.heap.size = w.heap.size + 1 := by omega
    have ne2 : ¬ w.heap.size = w1.heap.size := by omega
    have ne3 : ¬ w.heap.size + 1 = w1.heap.size := by omega
    have hB1 : Below w.heap.size w w1 := Below.trans (by repeat (first | exact Below.refl _ _ | refine Below.alloc ?_ (by simp <;> omega) _ | refine below_grow_of ?_ (by simp <;> omega) _ _ | refine Below.drew ?_)) (hb1.mono (by simp; omega))
    clear ho1 hf1 hb1
    go_wp2_with fail
    refine (ClockOk_impl _ ⟨⟨A, l.length, c⟩⟩ ⟨ep, l⟩ ⟨rd_up hr (hB1.alloc hB1.size _)⟩).mono ?_
    rw [k1]
    rintro e w2 ⟨rfl, hb2⟩
    have q0 : w2.cell? ⟨w1.heap.size, 0, none⟩ = some (.int .i64 ep) := cell_up hb2 (by simp <;> omega) (by simp [go_sem])
    have q1 : w2.cell? ⟨w1.heap.size, 1, none⟩ = some (.slice A1 n1 d1) := cell_up hb2 (by simp <;> omega) (by simp [go_sem])
    have qf0 : w2.frozen? ⟨w1.heap.size, 0, none⟩ = false := frozen_up hb2 (by simp <;> omega) (by simp [go_sem])
    replace p0 := up2 hb2 (by omega) p0
    replace p1 := up2 hb2 (by omega) p1
    replace r0 := up2 hb2 (by omega) r0
    replace r1 := up2 hb2 (by omega) r1
    replace rf0 := fup2 hb2 (by omega) rf0
    replace rf1 := fup2 hb2 (by omega) rf1
    have hz2 : w1.heap.size < w2.heap.size := by have := hb2.size; simp at this; omega
    have hov : OwL FPin 66 w2 (.slice A1 n1 d1) l := (hov1.alloc_ _).keep (fun g hg => hb2.block g (by have := hfl g (mem_foot1.2 hg); simp; omega))
    have hB2 : Below w.heap.size w w2 := (hB1.alloc hB1.size _).trans (hb2.mono (by simp; omega))
    clear hov1 hb2 hB1
    go_wp2_with fail
    refine bodyPost_ret (v := .tuple #[.agg #[.int .i64 ep, .slice A1 n1 d1], .bool false]) (by simp [results, Try.results19, go_sem, r0, r1]) rfl ⟨⟨⟨A1, n1, d1⟩⟩, by rw [HN.out], ⟨by rw [HN.out]; exact OwL.set_other (OwL.set_other hov (fun hm => by have a := hfv _ hm; have b := hfl _ hm; omega)) (fun hm => by have a := hfv _ hm; have b := hfl _ hm; omega)⟩, fun g hg => by have := hfv g hg; omega, by ((repeat (first | with_reducible exact hB2 | with_reducible refine Below.setCell ?_ ?_ _)); all_goals (simp <;> omega))⟩
  subst k2
  by_cases k3 : ep = 100000
  case pos =>
    have HN := Hid.mk_ (show bumpC ⟨ep, l⟩ ep = (⟨ep, l⟩, false) from if_neg (fun hh => hh.2.2 k3))
    have k3' : (ep == 100000) = true := by simpa using k3
    clear k3
    show Calls Try.prog 19 #[.agg #[.int .i64 ep, .slice A l.length c], .int .i64 ep] _ _
    go_enter Try.func19, Try.ntmps19
    go_wp2_with fail
    refine (copyClock_impl _ ⟨⟨A, l.length, c⟩⟩ ⟨ep, l⟩ ⟨rd_up hr (by repeat (first | exact Below.refl _ _ | refine Below.alloc ?_ (by simp <;> omega) _ | refine below_grow_of ?_ (by simp <;> omega) _ _ | refine Below.drew ?_))⟩ hs).mono ?_
    rintro e w1 ⟨⟨⟨A1, n1, d1⟩⟩, rfl, ho1, hf1, hb1⟩
    have hov1 : OwL FPin 66 w1 (.slice A1 n1 d1) l := ho1.Pins
    have hfv : ∀ g ∈ foot1 (.slice A1 n1 d1), w.heap.size + 1 < g := by intro g hg; have := hf1 g hg; simp at this; omega
    have hfl : ∀ g ∈ foot1 (.slice A1 n1 d1), g < w1.heap.size := foot_lt hov1
    have p0 : w1.cell? ⟨w.heap.size, 0, none⟩ = some (.int .i64 ep) := cell_up hb1 (by simp <;> omega) (by simp [go_sem])
    have p1 : w1.cell? ⟨w.heap.size, 1, none⟩ = some (.slice A l.length c) := cell_up hb1 (by simp <;> omega) (by simp [go_sem])
    have r0 : w1.cell? ⟨w.heap.size + 1, 0, none⟩ = some (.int .i64 0) := cell_up hb1 (by simp <;> omega) (by simp [go_sem])
    have r1 : w1.cell? ⟨w.heap.size + 1, 1, none⟩ = some (.slice none 0 0) := cell_up hb1 (by simp <;> omega) (by simp [go_sem])
    have rf0 : w1.frozen? ⟨w.heap.size + 1, 0, none⟩ = false := frozen_up hb1 (by simp <;> omega) (by simp [go_sem])
    have rf1 : w1.frozen? ⟨w.heap.size + 1, 1, none⟩ = false := frozen_up hb1 (by simp <;> omega) (by simp [go_sem])
    have hz1 : w.heap.size + 1 < w1.heap.size := by have := hb1.size; simp at this; omega
    have hz0 : w.heap.size < w1.heap.size := by omega
    have ne0 : ¬ w1.heap.size = w.heap.size := by omega
    have ne1 : ¬ w1.heap.size = w.heap.size + 1 := by omega
    have ne2 : ¬ w.heap.size = w1.heap.size := by omega
    have ne3 : ¬ w.heap.size + 1 = w1.heap.size := by omega
    have hB1 : Below w.heap.size w w1 := Below.trans (by repeat (first | exact Below.refl _ _ | refine Below.alloc ?_ (by simp <;> omega) _ | refine below_grow_of ?_ (by simp <;> omega) _ _ | refine Below.drew ?_)) (hb1.mono (by simp; omega))
    clear ho1 hf1 hb1
    go_wp2_with fail
    refine (ClockOk_impl _ ⟨⟨A, l.length, c⟩⟩ ⟨ep, l⟩ ⟨rd_up hr (hB1.alloc hB1.size _)⟩).mono ?_
    rw [k1]
    rintro e w2 ⟨rfl, hb2⟩
    have q0 : w2.cell? ⟨w1.heap.size, 0, none⟩ = some (.int .i64 ep) := cell_up hb2 (by simp <;> omega) (by simp [go_sem])
    have q1 : w2.cell? ⟨w1.heap.size, 1, none⟩ = some (.slice A1 n1 d1) := cell_up hb2 (by simp <;> omega) (by simp [go_sem])
    have qf0 : w2.frozen? ⟨w1.heap.size, 0, none⟩ = false := frozen_up hb2 (by simp <;> omega) (by simp [go_sem])
    replace p0 := up2 hb2 (by omega) p0
    replace p1 := up2 hb2 (by omega) p1
    replace r0 := up2 hb2 (by omega) r0
    replace r1 := up2 hb2 (by omega) r1
    replace rf0 := fup2 hb2 (by omega) rf0
    replace rf1 := fup2 hb2 (by omega) rf1
    have hz2 : w1.heap.size < w2.heap.size := by have := hb2.size; simp at this; omega
    have hov : OwL FPin 66 w2 (.slice A1 n1 d1) l := (hov1.alloc_ _).keep (fun g hg => hb2.block g (by have := hfl g (mem_foot1.2 hg); simp; omega))
    have hB2 : Below w.heap.size w w2 := (hB1.alloc hB1.size _).trans (hb2.mono (by simp; omega))
    clear hov1 hb2 hB1
    go_wp2_with fail
    refine bodyPost_ret (v := .tuple #[.agg #[.int .i64 ep, .slice A1 n1 d1], .bool false]) (by simp [results, Try.results19, go_sem, r0, r1]) rfl ⟨⟨⟨A1, n1, d1⟩⟩, by rw [HN.out], ⟨by rw [HN.out]; exact OwL.set_other (OwL.set_other hov (fun hm => by have a := hfv _ hm; have b := hfl _ hm; omega)) (fun hm => by have a := hfv _ hm; have b := hfl _ hm; omega)⟩, fun g hg => by have := hfv g hg; omega, by ((repeat (first | with_reducible exact hB2 | with_reducible refine Below.setCell ?_ ?_ _)); all_goals (simp <;> omega))⟩
  have k3' : (ep == 100000) = false := by simpa using k3
  have HN := Hid.mk_ (show bumpC ⟨ep, l⟩ ep = (⟨ep + 1, l⟩, true) from if_pos ⟨k1, rfl, k3⟩)
  have kb := clockOk_ep k1
  simp only at kb
  clear k3
  show Calls Try.prog 19 #[.agg #[.int .i64 ep, .slice A l.length c], .int .i64 ep] _ _
  go_enter Try.func19, Try.ntmps19
  go_wp2_with fail
  refine (copyClock_impl _ ⟨⟨A, l.length, c⟩⟩ ⟨ep, l⟩ ⟨rd_up hr (by repeat (first | exact Below.refl _ _ | refine Below.alloc ?_ (by simp <;> omega) _ | refine below_grow_of ?_ (by simp <;> omega) _ _ | refine Below.drew ?_))⟩ hs).mono ?_
  rintro e w1 ⟨⟨⟨A1, n1, d1⟩⟩, rfl, ho1, hf1, hb1⟩
  have hov1 : OwL FPin 66 w1 (.slice A1 n1 d1) l := ho1.Pins
  have hfv : ∀ g ∈ foot1 (.slice A1 n1 d1), w.heap.size + 1 < g := by intro g hg; have := hf1 g hg; simp at this; omega
  have hfl : ∀ g ∈ foot1 (.slice A1 n1 d1), g < w1.heap.size := foot_lt hov1
  have p0 : w1.cell? ⟨w.heap.size, 0, none⟩ = some (.int .i64 ep) := cell_up hb1 (by simp <;> omega) (by simp [go_sem])
  have p1 : w1.cell? ⟨w.heap.size, 1, none⟩ = some (.slice A l.length c) := cell_up hb1 (by simp <;> omega) (by simp [go_sem])
  have r0 : w1.cell? ⟨w.heap.size + 1, 0, none⟩ = some (.int .i64 0) := cell_up hb1 (by simp <;> omega) (by simp [go_sem])
  have r1 : w1.cell? ⟨w.heap.size + 1, 1, none⟩ = some (.slice none 0 0) := cell_up hb1 (by simp <;> omega) (by simp [go_sem])
  have rf0 : w1.frozen? ⟨w.heap.size + 1, 0, none⟩ = false := frozen_up hb1 (by simp <;> omega) (by simp [go_sem])
  have rf1 : w1.frozen? ⟨w.heap.size + 1, 1, none⟩ = false := frozen_up hb1 (by simp <;> omega) (by simp [go_sem])
  have hz1 : w.heap.size + 1 < w1.heap.size := by have := hb1.size; simp at this; omega
  have hz0 : w.heap.size < w1.heap.size := by omega
  have ne0 : ¬ w1.heap.size = w.heap.size := by omega
  have ne1 : ¬ w1.heap.size = w.heap.size + 1 := by omega
  have ne2 : ¬ w.heap.size = w1.heap.size := by omega
  have ne3 : ¬ w.heap.size + 1 = w1.heap.size := by omega
  have hB1 : Below w.heap.size w w1 := Below.trans (by repeat (first | exact Below.refl _ _ | refine Below.alloc ?_ (by simp <;> omega) _ | refine below_grow_of ?_ (by simp <;> omega) _ _ | refine Below.drew ?_)) (hb1.mono (by simp; omega))
  clear ho1 hf1 hb1
  go_wp2_with fail
  refine (ClockOk_impl _ ⟨⟨A, l.length, c⟩⟩ ⟨ep, l⟩ ⟨rd_up hr (hB1.alloc hB1.size _)⟩).mono ?_
  rw [k1]
  rintro e w2 ⟨rfl, hb2⟩
  have q0 : w2.cell? ⟨w1.heap.size, 0, none⟩ = some (.int .i64 ep) := cell_up hb2 (by simp <;> omega) (by simp [go_sem])
  have q1 : w2.cell? ⟨w1.heap.size, 1, none⟩ = some (.slice A1 n1 d1) := cell_up hb2 (by simp <;> omega) (by simp [go_sem])
  have qf0 : w2.frozen? ⟨w1.heap.size, 0, none⟩ = false := frozen_up hb2 (by simp <;> omega) (by simp [go_sem])
  replace p0 := up2 hb2 (by omega) p0
  replace p1 := up2 hb2 (by omega) p1
  replace r0 := up2 hb2 (by omega) r0
  replace r1 := up2 hb2 (by omega) r1
  replace rf0 := fup2 hb2 (by omega) rf0
  replace rf1 := fup2 hb2 (by omega) rf1
  have hz2 : w1.heap.size < w2.heap.size := by have := hb2.size; simp at this; omega
  have hov : OwL FPin 66 w2 (.slice A1 n1 d1) l := (hov1.alloc_ _).keep (fun g hg => hb2.block g (by have := hfl g (mem_foot1.2 hg); simp; omega))
  have hB2 : Below w.heap.size w w2 := (hB1.alloc hB1.size _).trans (hb2.mono (by simp; omega))
  clear hov1 hb2 hB1
  go_wp2_with fail
  refine bodyPost_ret (v := .tuple #[.agg #[.int .i64 (ep + 1), .slice A1 n1 d1], .bool true]) (by simp [results, Try.results19, go_sem, r0, r1]) rfl ⟨⟨⟨A1, n1, d1⟩⟩, by rw [HN.out], ⟨by rw [HN.out]; exact OwL.set_other (OwL.set_other (OwL.set_other hov (fun hm => by have a := hfv _ hm; have b := hfl _ hm; omega)) (fun hm => by have a := hfv _ hm; have b := hfl _ hm; omega)) (fun hm => by have a := hfv _ hm; have b := hfl _ hm; omega)⟩, fun g hg => by have := hfv g hg; omega, by ((repeat (first | with_reducible exact hB2 | with_reducible refine Below.setCell ?_ ?_ _)); all_goals (simp <;> omega))⟩

set_option maxRecDepth 100000 in
set_option maxHeartbeats 400000 in
theorem Bump_spec (w : World) (H : HClock) (x : Clock) (e0 : Int) (be : I64 e0) (h : RdClock w w.heap.size H x) (hs : x.Pins.length ≤ 1073741824) :
    Calls Try.prog 50 #[.agg #[.int .i64 x.Epoch, .slice H.Pins.a H.Pins.len H.Pins.cap], .int .i64 e0] w fun e w' => ∃ H' : HClock, e = .returned (.tuple #[H'.val (bumpC x e0).1, .bool (bumpC x e0).2]) ∧ OwClock w' H' (bumpC x e0).1 ∧ (∀ g ∈ H'.foot, w.heap.size ≤ g) ∧ Below w.heap.size w w' := by
  obtain ⟨⟨A, n, c⟩⟩ := H
  obtain ⟨ep, l⟩ := x
  have hr : RdL FPin w w.heap.size (.slice A n c) l := h.Pins
  obtain ⟨_, _, hv, q1, q2, qx⟩ := id hr
  simp only [Value.slice.injEq] at hv
  obtain ⟨rfl, rfl, rfl⟩ := hv
  have hlt0 : l.length ≤ 9223372036854775807 := by unfold maxLen at q2; omega
  clear q1 q2 qx h
  simp only at hs
  unfold I64 at be
  by_cases k1 : clockOkB ⟨ep, l⟩ = true
  case neg =>
    have k1' : clockOkB ⟨ep, l⟩ = false := (Bool.not_eq_true _).mp k1
    have HN := Hid.mk_ (show bumpC ⟨ep, l⟩ e0 = (⟨ep, l⟩, false) from if_neg (fun hh => k1 hh.1))
    clear k1
    show Calls Try.prog 50 #[.agg #[.int .i64 ep, .slice A l.length c], .int .i64 e0] _ _
    go_enter Try.func50, Try.ntmps50
    go_wp2_with fail
    refine (copyClock_spec _ ⟨⟨A, l.length, c⟩⟩ ⟨ep, l⟩ ⟨rd_up hr (by repeat (first | exact Below.refl _ _ | refine Below.alloc ?_ (by simp <;> omega) _ | refine below_grow_of ?_ (by simp <;> omega) _ _ | refine Below.drew ?_))⟩ hs).mono ?_
    rintro e w1 ⟨⟨⟨A1, n1, d1⟩⟩, rfl, ho1, hf1, hb1⟩
    have hov1 : OwL FPin 66 w1 (.slice A1 n1 d1) l := ho1.Pins
    have hfv : ∀ g ∈ foot1 (.slice A1 n1 d1), w.heap.size + 1 < g := by intro g hg; have := hf1 g hg; simp at this; omega
    have hfl : ∀ g ∈ foot1 (.slice A1 n1 d1), g < w1.heap.size := foot_lt hov1
    have p0 : w1.cell? ⟨w.heap.size, 0, none⟩ = some (.int .i64 ep) := cell_up hb1 (by simp <;> omega) (by simp [go_sem])
    have p1 : w1.cell? ⟨w.heap.size, 1, none⟩ = some (.slice A l.length c) := cell_up hb1 (by simp <;> omega) (by simp [go_sem])
    have r0 : w1.cell? ⟨w.heap.size + 1, 0, none⟩ = some (.int .i64 0) := cell_up hb1 (by simp <;> omega) (by simp [go_sem])
    have r1 : w1.cell? ⟨w.heap.size + 1, 1, none⟩ = some (.slice none 0 0) := cell_up hb1 (by simp <;> omega) (by simp [go_sem])
    have rf0 : w1.frozen? ⟨w.heap.size + 1, 0, none⟩ = false := frozen_up hb1 (by simp <;> omega) (by simp [go_sem])
    have rf1 : w1.frozen? ⟨w.heap.size + 1, 1, none⟩ = false := frozen_up hb1 (by simp <;> omega) (by simp [go_sem])
    have hz1 : w.heap.size + 1 < w1.heap.size := by have := hb1.size; simp at this; omega
    have hz0 : w.heap.size < w1.heap.size := by omega
    have ne0 : ¬ w1.heap.size = w.heap.size := by omega
    have ne1 : ¬ w1.heap.size = w.heap.size + 1 := by omega
    have ne2 : ¬ w.heap.size = w1.heap.size := by omega
    have ne3 : ¬ w.heap.size + 1 = w1.heap.size := by omega
    have hB1 : Below w.heap.size w w1 := Below.trans (by repeat (first | exact Below.refl _ _ | refine Below.alloc ?_ (by simp <;> omega) _ | refine below_grow_of ?_ (by simp <;> omega) _ _ | refine Below.drew ?_)) (hb1.mono (by simp; omega))
    clear ho1 hf1 hb1
    go_wp2_with fail
    refine (ClockOk_spec _ ⟨⟨A, l.length, c⟩⟩ ⟨ep, l⟩ ⟨rd_up hr (hB1.alloc hB1.size _)⟩).mono ?_
    rw [k1']
    rintro e w2 ⟨rfl, hb2⟩
    have q0 : w2.cell? ⟨w1.heap.size, 0, none⟩ = some (.int .i64 ep) := cell_up hb2 (by simp <;> omega) (by simp [go_sem])
    have q1 : w2.cell? ⟨w1.heap.size, 1, none⟩ = some (.slice A1 n1 d1) := cell_up hb2 (by simp <;> omega) (by simp [go_sem])
    have qf0 : w2.frozen? ⟨w1.heap.size, 0, none⟩ = false := frozen_up hb2 (by simp <;> omega) (by simp [go_sem])
    replace p0 := up2 hb2 (by omega) p0
    replace p1 := up2 hb2 (by omega) p1
    replace r0 := up2 hb2 (by omega) r0
    replace r1 := up2 hb2 (by omega) r1
    replace rf0 := fup2 hb2 (by omega) rf0
    replace rf1 := fup2 hb2 (by omega) rf1
    have hz2 : w1.heap.size < w2.heap.size := by have := hb2.size; simp at this; omega
    have hov : OwL FPin 66 w2 (.slice A1 n1 d1) l := (hov1.alloc_ _).keep (fun g hg => hb2.block g (by have := hfl g (mem_foot1.2 hg); simp; omega))
    have hB2 : Below w.heap.size w w2 := (hB1.alloc hB1.size _).trans (hb2.mono (by simp; omega))
    clear hov1 hb2 hB1
    go_wp2_with fail
    refine bodyPost_ret (v := .tuple #[.agg #[.int .i64 ep, .slice A1 n1 d1], .bool false]) (by simp [results, Try.results50, go_sem, r0, r1]) rfl ⟨⟨⟨A1, n1, d1⟩⟩, by rw [HN.out], ⟨by rw [HN.out]; exact OwL.set_other (OwL.set_other hov (fun hm => by have a := hfv _ hm; have b := hfl _ hm; omega)) (fun hm => by have a := hfv _ hm; have b := hfl _ hm; omega)⟩, fun g hg => by have := hfv g hg; omega, by ((repeat (first | with_reducible exact hB2 | with_reducible refine Below.setCell ?_ ?_ _)); all_goals (simp <;> omega))⟩
  by_cases k2 : ep = e0
  case neg =>
    have k2' : (ep != e0) = true := by simpa using k2
    have HN := Hid.mk_ (show bumpC ⟨ep, l⟩ e0 = (⟨ep, l⟩, false) from if_neg (fun hh => k2 hh.2.1))
    clear k2
    show Calls Try.prog 50 #[.agg #[.int .i64 ep, .slice A l.length c], .int .i64 e0] _ _
    go_enter Try.func50, Try.ntmps50
    go_wp2_with fail
    refine (copyClock_spec _ ⟨⟨A, l.length, c⟩⟩ ⟨ep, l⟩ ⟨rd_up hr (by repeat (first | exact Below.refl _ _ | refine Below.alloc ?_ (by simp <;> omega) _ | refine below_grow_of ?_ (by simp <;> omega) _ _ | refine Below.drew ?_))⟩ hs).mono ?_
    rintro e w1 ⟨⟨⟨A1, n1, d1⟩⟩, rfl, ho1, hf1, hb1⟩
    have hov1 : OwL FPin 66 w1 (.slice A1 n1 d1) l := ho1.Pins
    have hfv : ∀ g ∈ foot1 (.slice A1 n1 d1), w.heap.size + 1 < g := by intro g hg; have := hf1 g hg; simp at this; omega
    have hfl : ∀ g ∈ foot1 (.slice A1 n1 d1), g < w1.heap.size := foot_lt hov1
    have p0 : w1.cell? ⟨w.heap.size, 0, none⟩ = some (.int .i64 ep) := cell_up hb1 (by simp <;> omega) (by simp [go_sem])
    have p1 : w1.cell? ⟨w.heap.size, 1, none⟩ = some (.slice A l.length c) := cell_up hb1 (by simp <;> omega) (by simp [go_sem])
    have r0 : w1.cell? ⟨w.heap.size + 1, 0, none⟩ = some (.int .i64 0) := cell_up hb1 (by simp <;> omega) (by simp [go_sem])
    have r1 : w1.cell? ⟨w.heap.size + 1, 1, none⟩ = some (.slice none 0 0) := cell_up hb1 (by simp <;> omega) (by simp [go_sem])
    have rf0 : w1.frozen? ⟨w.heap.size + 1, 0, none⟩ = false := frozen_up hb1 (by simp <;> omega) (by simp [go_sem])
    have rf1 : w1.frozen? ⟨w.heap.size + 1, 1, none⟩ = false := frozen_up hb1 (by simp <;> omega) (by simp [go_sem])
    have hz1 : w.heap.size + 1 < w1.heap.size := by have := hb1.size; simp at this; omega
    have hz0 : w.heap.size < w1.heap.size := by omega
    have ne0 : ¬ w1.heap.size = w.heap.size := by omega
    have ne1 : ¬ w1.heap.size = w.heap.size + 1 := by omega
    have ne2 : ¬ w.heap.size = w1.heap.size := by omega
    have ne3 : ¬ w.heap.size + 1 = w1.heap.size := by omega
    have hB1 : Below w.heap.size w w1 := Below.trans (by repeat (first | exact Below.refl _ _ | refine Below.alloc ?_ (by simp <;> omega) _ | refine below_grow_of ?_ (by simp <;> omega) _ _ | refine Below.drew ?_)) (hb1.mono (by simp; omega))
    clear ho1 hf1 hb1
    go_wp2_with fail
    refine (ClockOk_spec _ ⟨⟨A, l.length, c⟩⟩ ⟨ep, l⟩ ⟨rd_up hr (hB1.alloc hB1.size _)⟩).mono ?_
    rw [k1]
    rintro e w2 ⟨rfl, hb2⟩
    have q0 : w2.cell? ⟨w1.heap.size, 0, none⟩ = some (.int .i64 ep) := cell_up hb2 (by simp <;> omega) (by simp [go_sem])
    have q1 : w2.cell? ⟨w1.heap.size, 1, none⟩ = some (.slice A1 n1 d1) := cell_up hb2 (by simp <;> omega) (by simp [go_sem])
    have qf0 : w2.frozen? ⟨w1.heap.size, 0, none⟩ = false := frozen_up hb2 (by simp <;> omega) (by simp [go_sem])
    replace p0 := up2 hb2 (by omega) p0
    replace p1 := up2 hb2 (by omega) p1
    replace r0 := up2 hb2 (by omega) r0
    replace r1 := up2 hb2 (by omega) r1
    replace rf0 := fup2 hb2 (by omega) rf0
    replace rf1 := fup2 hb2 (by omega) rf1
    have hz2 : w1.heap.size < w2.heap.size := by have := hb2.size; simp at this; omega
    have hov : OwL FPin 66 w2 (.slice A1 n1 d1) l := (hov1.alloc_ _).keep (fun g hg => hb2.block g (by have := hfl g (mem_foot1.2 hg); simp; omega))
    have hB2 : Below w.heap.size w w2 := (hB1.alloc hB1.size _).trans (hb2.mono (by simp; omega))
    clear hov1 hb2 hB1
    go_wp2_with fail
    refine bodyPost_ret (v := .tuple #[.agg #[.int .i64 ep, .slice A1 n1 d1], .bool false]) (by simp [results, Try.results50, go_sem, r0, r1]) rfl ⟨⟨⟨A1, n1, d1⟩⟩, by rw [HN.out], ⟨by rw [HN.out]; exact OwL.set_other (OwL.set_other hov (fun hm => by have a := hfv _ hm; have b := hfl _ hm; omega)) (fun hm => by have a := hfv _ hm; have b := hfl _ hm; omega)⟩, fun g hg => by have := hfv g hg; omega, by ((repeat (first | with_reducible exact hB2 | with_reducible refine Below.setCell ?_ ?_ _)); all_goals (simp <;> omega))⟩
  subst k2
  by_cases k3 : ep = 100000
  case pos =>
    have HN := Hid.mk_ (show bumpC ⟨ep, l⟩ ep = (⟨ep, l⟩, false) from if_neg (fun hh => hh.2.2 k3))
    have k3' : (ep == 100000) = true := by simpa using k3
    clear k3
    show Calls Try.prog 50 #[.agg #[.int .i64 ep, .slice A l.length c], .int .i64 ep] _ _
    go_enter Try.func50, Try.ntmps50
    go_wp2_with fail
    refine (copyClock_spec _ ⟨⟨A, l.length, c⟩⟩ ⟨ep, l⟩ ⟨rd_up hr (by repeat (first | exact Below.refl _ _ | refine Below.alloc ?_ (by simp <;> omega) _ | refine below_grow_of ?_ (by simp <;> omega) _ _ | refine Below.drew ?_))⟩ hs).mono ?_
    rintro e w1 ⟨⟨⟨A1, n1, d1⟩⟩, rfl, ho1, hf1, hb1⟩
    have hov1 : OwL FPin 66 w1 (.slice A1 n1 d1) l := ho1.Pins
    have hfv : ∀ g ∈ foot1 (.slice A1 n1 d1), w.heap.size + 1 < g := by intro g hg; have := hf1 g hg; simp at this; omega
    have hfl : ∀ g ∈ foot1 (.slice A1 n1 d1), g < w1.heap.size := foot_lt hov1
    have p0 : w1.cell? ⟨w.heap.size, 0, none⟩ = some (.int .i64 ep) := cell_up hb1 (by simp <;> omega) (by simp [go_sem])
    have p1 : w1.cell? ⟨w.heap.size, 1, none⟩ = some (.slice A l.length c) := cell_up hb1 (by simp <;> omega) (by simp [go_sem])
    have r0 : w1.cell? ⟨w.heap.size + 1, 0, none⟩ = some (.int .i64 0) := cell_up hb1 (by simp <;> omega) (by simp [go_sem])
    have r1 : w1.cell? ⟨w.heap.size + 1, 1, none⟩ = some (.slice none 0 0) := cell_up hb1 (by simp <;> omega) (by simp [go_sem])
    have rf0 : w1.frozen? ⟨w.heap.size + 1, 0, none⟩ = false := frozen_up hb1 (by simp <;> omega) (by simp [go_sem])
    have rf1 : w1.frozen? ⟨w.heap.size + 1, 1, none⟩ = false := frozen_up hb1 (by simp <;> omega) (by simp [go_sem])
    have hz1 : w.heap.size + 1 < w1.heap.size := by have := hb1.size; simp at this; omega
    have hz0 : w.heap.size < w1.heap.size := by omega
    have ne0 : ¬ w1.heap.size = w.heap.size := by omega
    have ne1 : ¬ w1.heap.size = w.heap.size + 1 := by omega
    have ne2 : ¬ w.heap.size = w1.heap.size := by omega
    have ne3 : ¬ w.heap.size + 1 = w1.heap.size := by omega
    have hB1 : Below w.heap.size w w1 := Below.trans (by repeat (first | exact Below.refl _ _ | refine Below.alloc ?_ (by simp <;> omega) _ | refine below_grow_of ?_ (by simp <;> omega) _ _ | refine Below.drew ?_)) (hb1.mono (by simp; omega))
    clear ho1 hf1 hb1
    go_wp2_with fail
    refine (ClockOk_spec _ ⟨⟨A, l.length, c⟩⟩ ⟨ep, l⟩ ⟨rd_up hr (hB1.alloc hB1.size _)⟩).mono ?_
    rw [k1]
    rintro e w2 ⟨rfl, hb2⟩
    have q0 : w2.cell? ⟨w1.heap.size, 0, none⟩ = some (.int .i64 ep) := cell_up hb2 (by simp <;> omega) (by simp [go_sem])
    have q1 : w2.cell? ⟨w1.heap.size, 1, none⟩ = some (.slice A1 n1 d1) := cell_up hb2 (by simp <;> omega) (by simp [go_sem])
    have qf0 : w2.frozen? ⟨w1.heap.size, 0, none⟩ = false := frozen_up hb2 (by simp <;> omega) (by simp [go_sem])
    replace p0 := up2 hb2 (by omega) p0
    replace p1 := up2 hb2 (by omega) p1
    replace r0 := up2 hb2 (by omega) r0
    replace r1 := up2 hb2 (by omega) r1
    replace rf0 := fup2 hb2 (by omega) rf0
    replace rf1 := fup2 hb2 (by omega) rf1
    have hz2 : w1.heap.size < w2.heap.size := by have := hb2.size; simp at this; omega
    have hov : OwL FPin 66 w2 (.slice A1 n1 d1) l := (hov1.alloc_ _).keep (fun g hg => hb2.block g (by have := hfl g (mem_foot1.2 hg); simp; omega))
    have hB2 : Below w.heap.size w w2 := (hB1.alloc hB1.size _).trans (hb2.mono (by simp; omega))
    clear hov1 hb2 hB1
    go_wp2_with fail
    refine bodyPost_ret (v := .tuple #[.agg #[.int .i64 ep, .slice A1 n1 d1], .bool false]) (by simp [results, Try.results50, go_sem, r0, r1]) rfl ⟨⟨⟨A1, n1, d1⟩⟩, by rw [HN.out], ⟨by rw [HN.out]; exact OwL.set_other (OwL.set_other hov (fun hm => by have a := hfv _ hm; have b := hfl _ hm; omega)) (fun hm => by have a := hfv _ hm; have b := hfl _ hm; omega)⟩, fun g hg => by have := hfv g hg; omega, by ((repeat (first | with_reducible exact hB2 | with_reducible refine Below.setCell ?_ ?_ _)); all_goals (simp <;> omega))⟩
  have k3' : (ep == 100000) = false := by simpa using k3
  have HN := Hid.mk_ (show bumpC ⟨ep, l⟩ ep = (⟨ep + 1, l⟩, true) from if_pos ⟨k1, rfl, k3⟩)
  have kb := clockOk_ep k1
  simp only at kb
  clear k3
  show Calls Try.prog 50 #[.agg #[.int .i64 ep, .slice A l.length c], .int .i64 ep] _ _
  go_enter Try.func50, Try.ntmps50
  go_wp2_with fail
  refine (copyClock_spec _ ⟨⟨A, l.length, c⟩⟩ ⟨ep, l⟩ ⟨rd_up hr (by repeat (first | exact Below.refl _ _ | refine Below.alloc ?_ (by simp <;> omega) _ | refine below_grow_of ?_ (by simp <;> omega) _ _ | refine Below.drew ?_))⟩ hs).mono ?_
  rintro e w1 ⟨⟨⟨A1, n1, d1⟩⟩, rfl, ho1, hf1, hb1⟩
  have hov1 : OwL FPin 66 w1 (.slice A1 n1 d1) l := ho1.Pins
  have hfv : ∀ g ∈ foot1 (.slice A1 n1 d1), w.heap.size + 1 < g := by intro g hg; have := hf1 g hg; simp at this; omega
  have hfl : ∀ g ∈ foot1 (.slice A1 n1 d1), g < w1.heap.size := foot_lt hov1
  have p0 : w1.cell? ⟨w.heap.size, 0, none⟩ = some (.int .i64 ep) := cell_up hb1 (by simp <;> omega) (by simp [go_sem])
  have p1 : w1.cell? ⟨w.heap.size, 1, none⟩ = some (.slice A l.length c) := cell_up hb1 (by simp <;> omega) (by simp [go_sem])
  have r0 : w1.cell? ⟨w.heap.size + 1, 0, none⟩ = some (.int .i64 0) := cell_up hb1 (by simp <;> omega) (by simp [go_sem])
  have r1 : w1.cell? ⟨w.heap.size + 1, 1, none⟩ = some (.slice none 0 0) := cell_up hb1 (by simp <;> omega) (by simp [go_sem])
  have rf0 : w1.frozen? ⟨w.heap.size + 1, 0, none⟩ = false := frozen_up hb1 (by simp <;> omega) (by simp [go_sem])
  have rf1 : w1.frozen? ⟨w.heap.size + 1, 1, none⟩ = false := frozen_up hb1 (by simp <;> omega) (by simp [go_sem])
  have hz1 : w.heap.size + 1 < w1.heap.size := by have := hb1.size; simp at this; omega
  have hz0 : w.heap.size < w1.heap.size := by omega
  have ne0 : ¬ w1.heap.size = w.heap.size := by omega
  have ne1 : ¬ w1.heap.size = w.heap.size + 1 := by omega
  have ne2 : ¬ w.heap.size = w1.heap.size := by omega
  have ne3 : ¬ w.heap.size + 1 = w1.heap.size := by omega
  have hB1 : Below w.heap.size w w1 := Below.trans (by repeat (first | exact Below.refl _ _ | refine Below.alloc ?_ (by simp <;> omega) _ | refine below_grow_of ?_ (by simp <;> omega) _ _ | refine Below.drew ?_)) (hb1.mono (by simp; omega))
  clear ho1 hf1 hb1
  go_wp2_with fail
  refine (ClockOk_spec _ ⟨⟨A, l.length, c⟩⟩ ⟨ep, l⟩ ⟨rd_up hr (hB1.alloc hB1.size _)⟩).mono ?_
  rw [k1]
  rintro e w2 ⟨rfl, hb2⟩
  have q0 : w2.cell? ⟨w1.heap.size, 0, none⟩ = some (.int .i64 ep) := cell_up hb2 (by simp <;> omega) (by simp [go_sem])
  have q1 : w2.cell? ⟨w1.heap.size, 1, none⟩ = some (.slice A1 n1 d1) := cell_up hb2 (by simp <;> omega) (by simp [go_sem])
  have qf0 : w2.frozen? ⟨w1.heap.size, 0, none⟩ = false := frozen_up hb2 (by simp <;> omega) (by simp [go_sem])
  replace p0 := up2 hb2 (by omega) p0
  replace p1 := up2 hb2 (by omega) p1
  replace r0 := up2 hb2 (by omega) r0
  replace r1 := up2 hb2 (by omega) r1
  replace rf0 := fup2 hb2 (by omega) rf0
  replace rf1 := fup2 hb2 (by omega) rf1
  have hz2 : w1.heap.size < w2.heap.size := by have := hb2.size; simp at this; omega
  have hov : OwL FPin 66 w2 (.slice A1 n1 d1) l := (hov1.alloc_ _).keep (fun g hg => hb2.block g (by have := hfl g (mem_foot1.2 hg); simp; omega))
  have hB2 : Below w.heap.size w w2 := (hB1.alloc hB1.size _).trans (hb2.mono (by simp; omega))
  clear hov1 hb2 hB1
  go_wp2_with fail
  refine bodyPost_ret (v := .tuple #[.agg #[.int .i64 (ep + 1), .slice A1 n1 d1], .bool true]) (by simp [results, Try.results50, go_sem, r0, r1]) rfl ⟨⟨⟨A1, n1, d1⟩⟩, by rw [HN.out], ⟨by rw [HN.out]; exact OwL.set_other (OwL.set_other (OwL.set_other hov (fun hm => by have a := hfv _ hm; have b := hfl _ hm; omega)) (fun hm => by have a := hfv _ hm; have b := hfl _ hm; omega)) (fun hm => by have a := hfv _ hm; have b := hfl _ hm; omega)⟩, fun g hg => by have := hfv g hg; omega, by ((repeat (first | with_reducible exact hB2 | with_reducible refine Below.setCell ?_ ?_ _)); all_goals (simp <;> omega))⟩

set_option maxRecDepth 100000 in
set_option maxHeartbeats 400000 in
theorem PinTo_impl (w : World) (H : HClock) (x : Clock) (wk e0 : Int) (h : RdClock w w.heap.size H x) (hs : x.Pins.length ≤ 1073741824) :
    Calls Try.prog 16 #[.agg #[.int .i64 x.Epoch, .slice H.Pins.a H.Pins.len H.Pins.cap], .int .i64 wk, .int .i64 e0] w fun e w' => ∃ H' : HClock, e = .returned (.tuple #[H'.val (pinToC x wk e0).1, .bool (pinToC x wk e0).2]) ∧ OwClock w' H' (pinToC x wk e0).1 ∧ (∀ g ∈ H'.foot, w.heap.size ≤ g) ∧ Below w.heap.size w w' := by
  obtain ⟨⟨A, n, c⟩⟩ := H
  obtain ⟨ep, l⟩ := x
  have hr : RdL FPin w w.heap.size (.slice A n c) l := h.Pins
  obtain ⟨_, _, hv, q1, q2, qx⟩ := id hr
  simp only [Value.slice.injEq] at hv
  obtain ⟨rfl, rfl, rfl⟩ := hv
  have hlt0 : l.length ≤ 9223372036854775807 := by unfold maxLen at q2; omega
  clear q1 q2 qx h
  simp only at hs
  by_cases k1 : clockOkB ⟨ep, l⟩ = true
  case neg =>
    have k1' : clockOkB ⟨ep, l⟩ = false := (Bool.not_eq_true _).mp k1
    have HN := Hid.mk_ (show pinToC ⟨ep, l⟩ wk e0 = (⟨ep, l⟩, false) from if_neg (fun hh => k1 hh.1))
    clear k1
    show Calls Try.prog 16 #[.agg #[.int .i64 ep, .slice A l.length c], .int .i64 wk, .int .i64 e0] _ _
    go_enter Try.func16, Try.ntmps16
    go_wp2_with fail
    refine (copyClock_impl _ ⟨⟨A, l.length, c⟩⟩ ⟨ep, l⟩ ⟨rd_up hr (by repeat (first | exact Below.refl _ _ | refine Below.alloc ?_ (by simp <;> omega) _ | refine below_grow_of ?_ (by simp <;> omega) _ _ | refine Below.drew ?_))⟩ hs).mono ?_
    rintro e w1 ⟨⟨⟨A1, n1, d1⟩⟩, rfl, ho1, hf1, hb1⟩
    have hov1 : OwL FPin 66 w1 (.slice A1 n1 d1) l := ho1.Pins
    have hfv : ∀ g ∈ foot1 (.slice A1 n1 d1), w.heap.size + 1 < g := by intro g hg; have := hf1 g hg; simp at this; omega
    have hfl : ∀ g ∈ foot1 (.slice A1 n1 d1), g < w1.heap.size := foot_lt hov1
    have p0 : w1.cell? ⟨w.heap.size, 0, none⟩ = some (.int .i64 ep) := cell_up hb1 (by simp <;> omega) (by simp [go_sem])
    have p1 : w1.cell? ⟨w.heap.size, 1, none⟩ = some (.slice A l.length c) := cell_up hb1 (by simp <;> omega) (by simp [go_sem])
    have r0 : w1.cell? ⟨w.heap.size + 1, 0, none⟩ = some (.int .i64 0) := cell_up hb1 (by simp <;> omega) (by simp [go_sem])
    have r1 : w1.cell? ⟨w.heap.size + 1, 1, none⟩ = some (.slice none 0 0) := cell_up hb1 (by simp <;> omega) (by simp [go_sem])
    have rf0 : w1.frozen? ⟨w.heap.size + 1, 0, none⟩ = false := frozen_up hb1 (by simp <;> omega) (by simp [go_sem])
    have rf1 : w1.frozen? ⟨w.heap.size + 1, 1, none⟩ = false := frozen_up hb1 (by simp <;> omega) (by simp [go_sem])
    have hz1 : w.heap.size + 1 < w1.heap.size := by have := hb1.size; simp at this; omega
    have hz0 : w.heap.size < w1.heap.size := by omega
    have ne0 : ¬ w1.heap.size = w.heap.size := by omega
    have ne1 : ¬ w1.heap.size = w.heap.size + 1 := by omega
    have ne2 : ¬ w.heap.size = w1.heap.size := by omega
    have ne3 : ¬ w.heap.size + 1 = w1.heap.size := by omega
    have hB1 : Below w.heap.size w w1 := Below.trans (by repeat (first | exact Below.refl _ _ | refine Below.alloc ?_ (by simp <;> omega) _ | refine below_grow_of ?_ (by simp <;> omega) _ _ | refine Below.drew ?_)) (hb1.mono (by simp; omega))
    clear ho1 hf1 hb1
    go_wp2_with fail
    refine (ClockOk_impl _ ⟨⟨A, l.length, c⟩⟩ ⟨ep, l⟩ ⟨rd_up hr (hB1.alloc hB1.size _)⟩).mono ?_
    rw [k1']
    rintro e w2 ⟨rfl, hb2⟩
    have q0 : w2.cell? ⟨w1.heap.size, 0, none⟩ = some (.int .i64 ep) := cell_up hb2 (by simp <;> omega) (by simp [go_sem])
    have q1 : w2.cell? ⟨w1.heap.size, 1, none⟩ = some (.slice A1 n1 d1) := cell_up hb2 (by simp <;> omega) (by simp [go_sem])
    have qf0 : w2.frozen? ⟨w1.heap.size, 0, none⟩ = false := frozen_up hb2 (by simp <;> omega) (by simp [go_sem])
    replace p0 := up2 hb2 (by omega) p0
    replace p1 := up2 hb2 (by omega) p1
    replace r0 := up2 hb2 (by omega) r0
    replace r1 := up2 hb2 (by omega) r1
    replace rf0 := fup2 hb2 (by omega) rf0
    replace rf1 := fup2 hb2 (by omega) rf1
    have hz2 : w1.heap.size < w2.heap.size := by have := hb2.size; simp at this; omega
    have hov : OwL FPin 66 w2 (.slice A1 n1 d1) l := (hov1.alloc_ _).keep (fun g hg => hb2.block g (by have := hfl g (mem_foot1.2 hg); simp; omega))
    have hB2 : Below w.heap.size w w2 := (hB1.alloc hB1.size _).trans (hb2.mono (by simp; omega))
    clear hov1 hb2 hB1
    go_wp2_with fail
    refine bodyPost_ret (v := .tuple #[.agg #[.int .i64 ep, .slice A1 n1 d1], .bool false]) (by simp [results, Try.results16, go_sem, r0, r1]) rfl ⟨⟨⟨A1, n1, d1⟩⟩, by rw [HN.out], ⟨by rw [HN.out]; exact OwL.set_other (OwL.set_other hov (fun hm => by have a := hfv _ hm; have b := hfl _ hm; omega)) (fun hm => by have a := hfv _ hm; have b := hfl _ hm; omega)⟩, fun g hg => by have := hfv g hg; omega, by ((repeat (first | with_reducible exact hB2 | with_reducible refine Below.setCell ?_ ?_ _)); all_goals (simp <;> omega))⟩
  by_cases k2 : inB 0 2 wk = true
  case neg =>
    have k2' : inB 0 2 wk = false := (Bool.not_eq_true _).mp k2
    have HN := Hid.mk_ (show pinToC ⟨ep, l⟩ wk e0 = (⟨ep, l⟩, false) from if_neg (fun hh => k2 hh.2.1))
    clear k2
    show Calls Try.prog 16 #[.agg #[.int .i64 ep, .slice A l.length c], .int .i64 wk, .int .i64 e0] _ _
    go_enter Try.func16, Try.ntmps16
    go_wp2_with fail
    refine (copyClock_impl _ ⟨⟨A, l.length, c⟩⟩ ⟨ep, l⟩ ⟨rd_up hr (by repeat (first | exact Below.refl _ _ | refine Below.alloc ?_ (by simp <;> omega) _ | refine below_grow_of ?_ (by simp <;> omega) _ _ | refine Below.drew ?_))⟩ hs).mono ?_
    rintro e w1 ⟨⟨⟨A1, n1, d1⟩⟩, rfl, ho1, hf1, hb1⟩
    have hov1 : OwL FPin 66 w1 (.slice A1 n1 d1) l := ho1.Pins
    have hfv : ∀ g ∈ foot1 (.slice A1 n1 d1), w.heap.size + 1 < g := by intro g hg; have := hf1 g hg; simp at this; omega
    have hfl : ∀ g ∈ foot1 (.slice A1 n1 d1), g < w1.heap.size := foot_lt hov1
    have p0 : w1.cell? ⟨w.heap.size, 0, none⟩ = some (.int .i64 ep) := cell_up hb1 (by simp <;> omega) (by simp [go_sem])
    have p1 : w1.cell? ⟨w.heap.size, 1, none⟩ = some (.slice A l.length c) := cell_up hb1 (by simp <;> omega) (by simp [go_sem])
    have r0 : w1.cell? ⟨w.heap.size + 1, 0, none⟩ = some (.int .i64 0) := cell_up hb1 (by simp <;> omega) (by simp [go_sem])
    have r1 : w1.cell? ⟨w.heap.size + 1, 1, none⟩ = some (.slice none 0 0) := cell_up hb1 (by simp <;> omega) (by simp [go_sem])
    have rf0 : w1.frozen? ⟨w.heap.size + 1, 0, none⟩ = false := frozen_up hb1 (by simp <;> omega) (by simp [go_sem])
    have rf1 : w1.frozen? ⟨w.heap.size + 1, 1, none⟩ = false := frozen_up hb1 (by simp <;> omega) (by simp [go_sem])
    have hz1 : w.heap.size + 1 < w1.heap.size := by have := hb1.size; simp at this; omega
    have hz0 : w.heap.size < w1.heap.size := by omega
    have ne0 : ¬ w1.heap.size = w.heap.size := by omega
    have ne1 : ¬ w1.heap.size = w.heap.size + 1 := by omega
    have ne2 : ¬ w.heap.size = w1.heap.size := by omega
    have ne3 : ¬ w.heap.size + 1 = w1.heap.size := by omega
    have hB1 : Below w.heap.size w w1 := Below.trans (by repeat (first | exact Below.refl _ _ | refine Below.alloc ?_ (by simp <;> omega) _ | refine below_grow_of ?_ (by simp <;> omega) _ _ | refine Below.drew ?_)) (hb1.mono (by simp; omega))
    clear ho1 hf1 hb1
    go_wp2_with fail
    refine (ClockOk_impl _ ⟨⟨A, l.length, c⟩⟩ ⟨ep, l⟩ ⟨rd_up hr (hB1.alloc hB1.size _)⟩).mono ?_
    rw [k1]
    rintro e w2 ⟨rfl, hb2⟩
    have q0 : w2.cell? ⟨w1.heap.size, 0, none⟩ = some (.int .i64 ep) := cell_up hb2 (by simp <;> omega) (by simp [go_sem])
    have q1 : w2.cell? ⟨w1.heap.size, 1, none⟩ = some (.slice A1 n1 d1) := cell_up hb2 (by simp <;> omega) (by simp [go_sem])
    have qf0 : w2.frozen? ⟨w1.heap.size, 0, none⟩ = false := frozen_up hb2 (by simp <;> omega) (by simp [go_sem])
    replace p0 := up2 hb2 (by omega) p0
    replace p1 := up2 hb2 (by omega) p1
    replace r0 := up2 hb2 (by omega) r0
    replace r1 := up2 hb2 (by omega) r1
    replace rf0 := fup2 hb2 (by omega) rf0
    replace rf1 := fup2 hb2 (by omega) rf1
    have hz2 : w1.heap.size < w2.heap.size := by have := hb2.size; simp at this; omega
    have hov : OwL FPin 66 w2 (.slice A1 n1 d1) l := (hov1.alloc_ _).keep (fun g hg => hb2.block g (by have := hfl g (mem_foot1.2 hg); simp; omega))
    have hB2 : Below w.heap.size w w2 := (hB1.alloc hB1.size _).trans (hb2.mono (by simp; omega))
    clear hov1 hb2 hB1
    go_wp2_with (first | (go_at_call 34; refine (isWorker_ct _ _).mono ?_; rintro e w3 ⟨rfl, rfl⟩) | (go_at_call 35; refine (within_ct _ _ _ _).mono ?_; rintro e w3 ⟨rfl, rfl⟩))
    refine bodyPost_ret (v := .tuple #[.agg #[.int .i64 ep, .slice A1 n1 d1], .bool false]) (by simp [results, Try.results16, go_sem, r0, r1]) rfl ⟨⟨⟨A1, n1, d1⟩⟩, by rw [HN.out], ⟨by rw [HN.out]; exact OwL.set_other (OwL.set_other hov (fun hm => by have a := hfv _ hm; have b := hfl _ hm; omega)) (fun hm => by have a := hfv _ hm; have b := hfl _ hm; omega)⟩, fun g hg => by have := hfv g hg; omega, by ((repeat (first | with_reducible exact hB2 | with_reducible refine Below.setCell ?_ ?_ _)); all_goals (simp <;> omega))⟩
  by_cases k3 : inB 0 ep e0 = true
  case neg =>
    have k3' : inB 0 ep e0 = false := (Bool.not_eq_true _).mp k3
    have HN := Hid.mk_ (show pinToC ⟨ep, l⟩ wk e0 = (⟨ep, l⟩, false) from if_neg (fun hh => k3 hh.2.2))
    clear k3
    show Calls Try.prog 16 #[.agg #[.int .i64 ep, .slice A l.length c], .int .i64 wk, .int .i64 e0] _ _
    go_enter Try.func16, Try.ntmps16
    go_wp2_with fail
    refine (copyClock_impl _ ⟨⟨A, l.length, c⟩⟩ ⟨ep, l⟩ ⟨rd_up hr (by repeat (first | exact Below.refl _ _ | refine Below.alloc ?_ (by simp <;> omega) _ | refine below_grow_of ?_ (by simp <;> omega) _ _ | refine Below.drew ?_))⟩ hs).mono ?_
    rintro e w1 ⟨⟨⟨A1, n1, d1⟩⟩, rfl, ho1, hf1, hb1⟩
    have hov1 : OwL FPin 66 w1 (.slice A1 n1 d1) l := ho1.Pins
    have hfv : ∀ g ∈ foot1 (.slice A1 n1 d1), w.heap.size + 1 < g := by intro g hg; have := hf1 g hg; simp at this; omega
    have hfl : ∀ g ∈ foot1 (.slice A1 n1 d1), g < w1.heap.size := foot_lt hov1
    have p0 : w1.cell? ⟨w.heap.size, 0, none⟩ = some (.int .i64 ep) := cell_up hb1 (by simp <;> omega) (by simp [go_sem])
    have p1 : w1.cell? ⟨w.heap.size, 1, none⟩ = some (.slice A l.length c) := cell_up hb1 (by simp <;> omega) (by simp [go_sem])
    have r0 : w1.cell? ⟨w.heap.size + 1, 0, none⟩ = some (.int .i64 0) := cell_up hb1 (by simp <;> omega) (by simp [go_sem])
    have r1 : w1.cell? ⟨w.heap.size + 1, 1, none⟩ = some (.slice none 0 0) := cell_up hb1 (by simp <;> omega) (by simp [go_sem])
    have rf0 : w1.frozen? ⟨w.heap.size + 1, 0, none⟩ = false := frozen_up hb1 (by simp <;> omega) (by simp [go_sem])
    have rf1 : w1.frozen? ⟨w.heap.size + 1, 1, none⟩ = false := frozen_up hb1 (by simp <;> omega) (by simp [go_sem])
    have hz1 : w.heap.size + 1 < w1.heap.size := by have := hb1.size; simp at this; omega
    have hz0 : w.heap.size < w1.heap.size := by omega
    have ne0 : ¬ w1.heap.size = w.heap.size := by omega
    have ne1 : ¬ w1.heap.size = w.heap.size + 1 := by omega
    have ne2 : ¬ w.heap.size = w1.heap.size := by omega
    have ne3 : ¬ w.heap.size + 1 = w1.heap.size := by omega
    have hB1 : Below w.heap.size w w1 := Below.trans (by repeat (first | exact Below.refl _ _ | refine Below.alloc ?_ (by simp <;> omega) _ | refine below_grow_of ?_ (by simp <;> omega) _ _ | refine Below.drew ?_)) (hb1.mono (by simp; omega))
    clear ho1 hf1 hb1
    go_wp2_with fail
    refine (ClockOk_impl _ ⟨⟨A, l.length, c⟩⟩ ⟨ep, l⟩ ⟨rd_up hr (hB1.alloc hB1.size _)⟩).mono ?_
    rw [k1]
    rintro e w2 ⟨rfl, hb2⟩
    have q0 : w2.cell? ⟨w1.heap.size, 0, none⟩ = some (.int .i64 ep) := cell_up hb2 (by simp <;> omega) (by simp [go_sem])
    have q1 : w2.cell? ⟨w1.heap.size, 1, none⟩ = some (.slice A1 n1 d1) := cell_up hb2 (by simp <;> omega) (by simp [go_sem])
    have qf0 : w2.frozen? ⟨w1.heap.size, 0, none⟩ = false := frozen_up hb2 (by simp <;> omega) (by simp [go_sem])
    replace p0 := up2 hb2 (by omega) p0
    replace p1 := up2 hb2 (by omega) p1
    replace r0 := up2 hb2 (by omega) r0
    replace r1 := up2 hb2 (by omega) r1
    replace rf0 := fup2 hb2 (by omega) rf0
    replace rf1 := fup2 hb2 (by omega) rf1
    have hz2 : w1.heap.size < w2.heap.size := by have := hb2.size; simp at this; omega
    have hov : OwL FPin 66 w2 (.slice A1 n1 d1) l := (hov1.alloc_ _).keep (fun g hg => hb2.block g (by have := hfl g (mem_foot1.2 hg); simp; omega))
    have hB2 : Below w.heap.size w w2 := (hB1.alloc hB1.size _).trans (hb2.mono (by simp; omega))
    clear hov1 hb2 hB1
    go_wp2_with (first | (go_at_call 34; refine (isWorker_ct _ _).mono ?_; rintro e w3 ⟨rfl, rfl⟩) | (go_at_call 35; refine (within_ct _ _ _ _).mono ?_; rintro e w3 ⟨rfl, rfl⟩))
    refine bodyPost_ret (v := .tuple #[.agg #[.int .i64 ep, .slice A1 n1 d1], .bool false]) (by simp [results, Try.results16, go_sem, r0, r1]) rfl ⟨⟨⟨A1, n1, d1⟩⟩, by rw [HN.out], ⟨by rw [HN.out]; exact OwL.set_other (OwL.set_other hov (fun hm => by have a := hfv _ hm; have b := hfl _ hm; omega)) (fun hm => by have a := hfv _ hm; have b := hfl _ hm; omega)⟩, fun g hg => by have := hfv g hg; omega, by ((repeat (first | with_reducible exact hB2 | with_reducible refine Below.setCell ?_ ?_ _)); all_goals (simp <;> omega))⟩
  obtain ⟨k0, rfl⟩ := Int.eq_ofNat_of_zero_le (inB_iff.1 k2).1
  have H3 : Hid (l.length = 3) := clockOk_len k1
  have hk0 : k0 < l.length := by rw [H3.out]; have := (inB_iff.1 k2).2; omega
  obtain ⟨p, hp⟩ : ∃ p, l[k0]? = some p := ⟨_, List.getElem?_eq_getElem hk0⟩
  have HG : Hid (l.getD (k0 : Int).toNat pin0 = p) := Hid.mk_ (by rw [Int.toNat_natCast, List.getD, hp]; rfl)
  have HX := Hid.mk_ hp
  clear hp
  have HN := Hid.mk_ (show pinToC ⟨ep, l⟩ (k0 : Int) e0 = (⟨ep, l.set k0 ⟨true, e0, false, 0⟩⟩, true) from if_pos ⟨k1, k2, k3⟩)
  show Calls Try.prog 16 #[.agg #[.int .i64 ep, .slice A l.length c], .int .i64 (k0 : Int), .int .i64 e0] _ _
  go_enter Try.func16, Try.ntmps16
  go_wp2_with fail
  refine (copyClock_impl _ ⟨⟨A, l.length, c⟩⟩ ⟨ep, l⟩ ⟨rd_up hr (by repeat (first | exact Below.refl _ _ | refine Below.alloc ?_ (by simp <;> omega) _ | refine below_grow_of ?_ (by simp <;> omega) _ _ | refine Below.drew ?_))⟩ hs).mono ?_
  rintro e w1 ⟨⟨⟨A1, n1, d1⟩⟩, rfl, ho1, hf1, hb1⟩
  have hov1 : OwL FPin 66 w1 (.slice A1 n1 d1) l := ho1.Pins
  have hfv : ∀ g ∈ foot1 (.slice A1 n1 d1), w.heap.size + 1 < g := by intro g hg; have := hf1 g hg; simp at this; omega
  have hfl : ∀ g ∈ foot1 (.slice A1 n1 d1), g < w1.heap.size := foot_lt hov1
  have p0 : w1.cell? ⟨w.heap.size, 0, none⟩ = some (.int .i64 ep) := cell_up hb1 (by simp <;> omega) (by simp [go_sem])
  have p1 : w1.cell? ⟨w.heap.size, 1, none⟩ = some (.slice A l.length c) := cell_up hb1 (by simp <;> omega) (by simp [go_sem])
  have r0 : w1.cell? ⟨w.heap.size + 1, 0, none⟩ = some (.int .i64 0) := cell_up hb1 (by simp <;> omega) (by simp [go_sem])
  have r1 : w1.cell? ⟨w.heap.size + 1, 1, none⟩ = some (.slice none 0 0) := cell_up hb1 (by simp <;> omega) (by simp [go_sem])
  have rf0 : w1.frozen? ⟨w.heap.size + 1, 0, none⟩ = false := frozen_up hb1 (by simp <;> omega) (by simp [go_sem])
  have rf1 : w1.frozen? ⟨w.heap.size + 1, 1, none⟩ = false := frozen_up hb1 (by simp <;> omega) (by simp [go_sem])
  have hz1 : w.heap.size + 1 < w1.heap.size := by have := hb1.size; simp at this; omega
  have hz0 : w.heap.size < w1.heap.size := by omega
  have ne0 : ¬ w1.heap.size = w.heap.size := by omega
  have ne1 : ¬ w1.heap.size = w.heap.size + 1 := by omega
  have ne2 : ¬ w.heap.size = w1.heap.size := by omega
  have ne3 : ¬ w.heap.size + 1 = w1.heap.size := by omega
  have hB1 : Below w.heap.size w w1 := Below.trans (by repeat (first | exact Below.refl _ _ | refine Below.alloc ?_ (by simp <;> omega) _ | refine below_grow_of ?_ (by simp <;> omega) _ _ | refine Below.drew ?_)) (hb1.mono (by simp; omega))
  clear ho1 hf1 hb1
  go_wp2_with fail
  refine (ClockOk_impl _ ⟨⟨A, l.length, c⟩⟩ ⟨ep, l⟩ ⟨rd_up hr (hB1.alloc hB1.size _)⟩).mono ?_
  rw [k1]
  rintro e w2 ⟨rfl, hb2⟩
  have q0 : w2.cell? ⟨w1.heap.size, 0, none⟩ = some (.int .i64 ep) := cell_up hb2 (by simp <;> omega) (by simp [go_sem])
  have q1 : w2.cell? ⟨w1.heap.size, 1, none⟩ = some (.slice A1 n1 d1) := cell_up hb2 (by simp <;> omega) (by simp [go_sem])
  have qf0 : w2.frozen? ⟨w1.heap.size, 0, none⟩ = false := frozen_up hb2 (by simp <;> omega) (by simp [go_sem])
  replace p0 := up2 hb2 (by omega) p0
  replace p1 := up2 hb2 (by omega) p1
  replace r0 := up2 hb2 (by omega) r0
  replace r1 := up2 hb2 (by omega) r1
  replace rf0 := fup2 hb2 (by omega) rf0
  replace rf1 := fup2 hb2 (by omega) rf1
  have hz2 : w1.heap.size < w2.heap.size := by have := hb2.size; simp at this; omega
  have hov : OwL FPin 66 w2 (.slice A1 n1 d1) l := (hov1.alloc_ _).keep (fun g hg => hb2.block g (by have := hfl g (mem_foot1.2 hg); simp; omega))
  have hB2 : Below w.heap.size w w2 := (hB1.alloc hB1.size _).trans (hb2.mono (by simp; omega))
  clear hov1 hb2 hB1
  obtain ⟨g, cap, hv, hg⟩ := hov.form_pos (by rw [H3.out]; decide)
  simp only [Value.slice.injEq] at hv
  obtain ⟨rfl, rfl, rfl⟩ := hv
  have hg1 : w.heap.size + 1 < g := hfv g (mem_foot1.2 rfl)
  have hg2 : g < w1.heap.size := hfl g (mem_foot1.2 rfl)
  have ng0 : ¬ g = w.heap.size := by omega
  have ng1 : ¬ g = w.heap.size + 1 := by omega
  have ng2 : ¬ g = w1.heap.size := by omega
  have ng3 : ¬ w.heap.size = g := by omega
  have ng4 : ¬ w.heap.size + 1 = g := by omega
  have ng5 : ¬ w1.heap.size = g := by omega
  have x0 : w2.cell? ⟨g, k0 * 4, none⟩ = some (.bool p.On) := hov.cell_ (j := 0) HX.out (by decide)
  have xf0 := hov.frozen_ (k0 * 4)
  have x1 : w2.cell? ⟨g, k0 * 4 + 1, none⟩ = some (.int .i64 p.Epoch) := hov.cell_ (j := 1) HX.out (by decide)
  have xf1 := hov.frozen_ (k0 * 4 + 1)
  have x2 : w2.cell? ⟨g, k0 * 4 + 2, none⟩ = some (.bool p.Marked) := hov.cell_ (j := 2) HX.out (by decide)
  have xf2 := hov.frozen_ (k0 * 4 + 2)
  have x3 : w2.cell? ⟨g, k0 * 4 + 3, none⟩ = some (.int .i64 p.Seen) := hov.cell_ (j := 3) HX.out (by decide)
  have xf3 := hov.frozen_ (k0 * 4 + 3)
  go_wp2_with (first | (go_at_call 34; refine (isWorker_ct _ _).mono ?_; rintro e w3 ⟨rfl, rfl⟩) | (go_at_call 35; refine (within_ct _ _ _ _).mono ?_; rintro e w3 ⟨rfl, rfl⟩))
  have s0 := hov.set_ (k := k0) (j := 0) (y := (⟨true, p.Epoch, p.Marked, p.Seen⟩ : Pin)) (u := .bool true) HX.out (by decide) rfl
  have s1 := s0.set_ (k := k0) (j := 1) (y := (⟨true, e0, p.Marked, p.Seen⟩ : Pin)) (u := .int .i64 e0) (set_get (⟨true, p.Epoch, p.Marked, p.Seen⟩ : Pin) HX.out) (by decide) rfl
  have s2 := s1.set_ (k := k0) (j := 2) (y := (⟨true, e0, false, p.Seen⟩ : Pin)) (u := .bool false) (set_get (⟨true, e0, p.Marked, p.Seen⟩ : Pin) (set_get (⟨true, p.Epoch, p.Marked, p.Seen⟩ : Pin) HX.out)) (by decide) rfl
  have s3 := s2.set_ (k := k0) (j := 3) (y := (⟨true, e0, false, 0⟩ : Pin)) (u := .int .i64 0) (set_get (⟨true, e0, false, p.Seen⟩ : Pin) (set_get (⟨true, e0, p.Marked, p.Seen⟩ : Pin) (set_get (⟨true, p.Epoch, p.Marked, p.Seen⟩ : Pin) HX.out))) (by decide) rfl
  simp only [List.set_set] at s3
  refine bodyPost_ret (v := .tuple #[.agg #[.int .i64 ep, .slice (some ⟨g, 0, none⟩) l.length d1], .bool true]) (by simp [results, Try.results16, go_sem, r0, r1]) rfl ⟨⟨⟨some ⟨g, 0, none⟩, l.length, d1⟩⟩, by rw [HN.out], ⟨by rw [HN.out]; exact OwL.set_other (OwL.set_other s3 (fun hm => by have a := hfv _ hm; have b := hfl _ hm; omega)) (fun hm => by have a := hfv _ hm; have b := hfl _ hm; omega)⟩, fun g hg => by have := hfv g hg; omega, by ((repeat (first | with_reducible exact hB2 | with_reducible refine Below.setCell ?_ ?_ _)); all_goals (simp <;> omega))⟩

set_option maxRecDepth 100000 in
set_option maxHeartbeats 400000 in
theorem PinTo_spec (w : World) (H : HClock) (x : Clock) (wk e0 : Int) (h : RdClock w w.heap.size H x) (hs : x.Pins.length ≤ 1073741824) :
    Calls Try.prog 47 #[.agg #[.int .i64 x.Epoch, .slice H.Pins.a H.Pins.len H.Pins.cap], .int .i64 wk, .int .i64 e0] w fun e w' => ∃ H' : HClock, e = .returned (.tuple #[H'.val (pinToC x wk e0).1, .bool (pinToC x wk e0).2]) ∧ OwClock w' H' (pinToC x wk e0).1 ∧ (∀ g ∈ H'.foot, w.heap.size ≤ g) ∧ Below w.heap.size w w' := by
  obtain ⟨⟨A, n, c⟩⟩ := H
  obtain ⟨ep, l⟩ := x
  have hr : RdL FPin w w.heap.size (.slice A n c) l := h.Pins
  obtain ⟨_, _, hv, q1, q2, qx⟩ := id hr
  simp only [Value.slice.injEq] at hv
  obtain ⟨rfl, rfl, rfl⟩ := hv
  have hlt0 : l.length ≤ 9223372036854775807 := by unfold maxLen at q2; omega
  clear q1 q2 qx h
  simp only at hs
  by_cases k1 : clockOkB ⟨ep, l⟩ = true
  case neg =>
    have k1' : clockOkB ⟨ep, l⟩ = false := (Bool.not_eq_true _).mp k1
    have HN := Hid.mk_ (show pinToC ⟨ep, l⟩ wk e0 = (⟨ep, l⟩, false) from if_neg (fun hh => k1 hh.1))
    clear k1
    show Calls Try.prog 47 #[.agg #[.int .i64 ep, .slice A l.length c], .int .i64 wk, .int .i64 e0] _ _
    go_enter Try.func47, Try.ntmps47
    go_wp2_with fail
    refine (copyClock_spec _ ⟨⟨A, l.length, c⟩⟩ ⟨ep, l⟩ ⟨rd_up hr (by repeat (first | exact Below.refl _ _ | refine Below.alloc ?_ (by simp <;> omega) _ | refine below_grow_of ?_ (by simp <;> omega) _ _ | refine Below.drew ?_))⟩ hs).mono ?_
    rintro e w1 ⟨⟨⟨A1, n1, d1⟩⟩, rfl, ho1, hf1, hb1⟩
    have hov1 : OwL FPin 66 w1 (.slice A1 n1 d1) l := ho1.Pins
    have hfv : ∀ g ∈ foot1 (.slice A1 n1 d1), w.heap.size + 1 < g := by intro g hg; have := hf1 g hg; simp at this; omega
    have hfl : ∀ g ∈ foot1 (.slice A1 n1 d1), g < w1.heap.size := foot_lt hov1
    have p0 : w1.cell? ⟨w.heap.size, 0, none⟩ = some (.int .i64 ep) := cell_up hb1 (by simp <;> omega) (by simp [go_sem])
    have p1 : w1.cell? ⟨w.heap.size, 1, none⟩ = some (.slice A l.length c) := cell_up hb1 (by simp <;> omega) (by simp [go_sem])
    have r0 : w1.cell? ⟨w.heap.size + 1, 0, none⟩ = some (.int .i64 0) := cell_up hb1 (by simp <;> omega) (by simp [go_sem])
    have r1 : w1.cell? ⟨w.heap.size + 1, 1, none⟩ = some (.slice none 0 0) := cell_up hb1 (by simp <;> omega) (by simp [go_sem])
    have rf0 : w1.frozen? ⟨w.heap.size + 1, 0, none⟩ = false := frozen_up hb1 (by simp <;> omega) (by simp [go_sem])
    have rf1 : w1.frozen? ⟨w.heap.size + 1, 1, none⟩ = false := frozen_up hb1 (by simp <;> omega) (by simp [go_sem])
    have hz1 : w.heap.size + 1 < w1.heap.size := by have := hb1.size; simp at this; omega
    have hz0 : w.heap.size < w1.heap.size := by omega
    have ne0 : ¬ w1.heap.size = w.heap.size := by omega
    have ne1 : ¬ w1.heap.size = w.heap.size + 1 := by omega
    have ne2 : ¬ w.heap.size = w1.heap.size := by omega
    have ne3 : ¬ w.heap.size + 1 = w1.heap.size := by omega
    have hB1 : Below w.heap.size w w1 := Below.trans (by repeat (first | exact Below.refl _ _ | refine Below.alloc ?_ (by simp <;> omega) _ | refine below_grow_of ?_ (by simp <;> omega) _ _ | refine Below.drew ?_)) (hb1.mono (by simp; omega))
    clear ho1 hf1 hb1
    go_wp2_with fail
    refine (ClockOk_spec _ ⟨⟨A, l.length, c⟩⟩ ⟨ep, l⟩ ⟨rd_up hr (hB1.alloc hB1.size _)⟩).mono ?_
    rw [k1']
    rintro e w2 ⟨rfl, hb2⟩
    have q0 : w2.cell? ⟨w1.heap.size, 0, none⟩ = some (.int .i64 ep) := cell_up hb2 (by simp <;> omega) (by simp [go_sem])
    have q1 : w2.cell? ⟨w1.heap.size, 1, none⟩ = some (.slice A1 n1 d1) := cell_up hb2 (by simp <;> omega) (by simp [go_sem])
    have qf0 : w2.frozen? ⟨w1.heap.size, 0, none⟩ = false := frozen_up hb2 (by simp <;> omega) (by simp [go_sem])
    replace p0 := up2 hb2 (by omega) p0
    replace p1 := up2 hb2 (by omega) p1
    replace r0 := up2 hb2 (by omega) r0
    replace r1 := up2 hb2 (by omega) r1
    replace rf0 := fup2 hb2 (by omega) rf0
    replace rf1 := fup2 hb2 (by omega) rf1
    have hz2 : w1.heap.size < w2.heap.size := by have := hb2.size; simp at this; omega
    have hov : OwL FPin 66 w2 (.slice A1 n1 d1) l := (hov1.alloc_ _).keep (fun g hg => hb2.block g (by have := hfl g (mem_foot1.2 hg); simp; omega))
    have hB2 : Below w.heap.size w w2 := (hB1.alloc hB1.size _).trans (hb2.mono (by simp; omega))
    clear hov1 hb2 hB1
    go_wp2_with fail
    refine bodyPost_ret (v := .tuple #[.agg #[.int .i64 ep, .slice A1 n1 d1], .bool false]) (by simp [results, Try.results47, go_sem, r0, r1]) rfl ⟨⟨⟨A1, n1, d1⟩⟩, by rw [HN.out], ⟨by rw [HN.out]; exact OwL.set_other (OwL.set_other hov (fun hm => by have a := hfv _ hm; have b := hfl _ hm; omega)) (fun hm => by have a := hfv _ hm; have b := hfl _ hm; omega)⟩, fun g hg => by have := hfv g hg; omega, by ((repeat (first | with_reducible exact hB2 | with_reducible refine Below.setCell ?_ ?_ _)); all_goals (simp <;> omega))⟩
  by_cases k2 : inB 0 2 wk = true
  case neg =>
    have k2' : inB 0 2 wk = false := (Bool.not_eq_true _).mp k2
    have HN := Hid.mk_ (show pinToC ⟨ep, l⟩ wk e0 = (⟨ep, l⟩, false) from if_neg (fun hh => k2 hh.2.1))
    clear k2
    show Calls Try.prog 47 #[.agg #[.int .i64 ep, .slice A l.length c], .int .i64 wk, .int .i64 e0] _ _
    go_enter Try.func47, Try.ntmps47
    go_wp2_with fail
    refine (copyClock_spec _ ⟨⟨A, l.length, c⟩⟩ ⟨ep, l⟩ ⟨rd_up hr (by repeat (first | exact Below.refl _ _ | refine Below.alloc ?_ (by simp <;> omega) _ | refine below_grow_of ?_ (by simp <;> omega) _ _ | refine Below.drew ?_))⟩ hs).mono ?_
    rintro e w1 ⟨⟨⟨A1, n1, d1⟩⟩, rfl, ho1, hf1, hb1⟩
    have hov1 : OwL FPin 66 w1 (.slice A1 n1 d1) l := ho1.Pins
    have hfv : ∀ g ∈ foot1 (.slice A1 n1 d1), w.heap.size + 1 < g := by intro g hg; have := hf1 g hg; simp at this; omega
    have hfl : ∀ g ∈ foot1 (.slice A1 n1 d1), g < w1.heap.size := foot_lt hov1
    have p0 : w1.cell? ⟨w.heap.size, 0, none⟩ = some (.int .i64 ep) := cell_up hb1 (by simp <;> omega) (by simp [go_sem])
    have p1 : w1.cell? ⟨w.heap.size, 1, none⟩ = some (.slice A l.length c) := cell_up hb1 (by simp <;> omega) (by simp [go_sem])
    have r0 : w1.cell? ⟨w.heap.size + 1, 0, none⟩ = some (.int .i64 0) := cell_up hb1 (by simp <;> omega) (by simp [go_sem])
    have r1 : w1.cell? ⟨w.heap.size + 1, 1, none⟩ = some (.slice none 0 0) := cell_up hb1 (by simp <;> omega) (by simp [go_sem])
    have rf0 : w1.frozen? ⟨w.heap.size + 1, 0, none⟩ = false := frozen_up hb1 (by simp <;> omega) (by simp [go_sem])
    have rf1 : w1.frozen? ⟨w.heap.size + 1, 1, none⟩ = false := frozen_up hb1 (by simp <;> omega) (by simp [go_sem])
    have hz1 : w.heap.size + 1 < w1.heap.size := by have := hb1.size; simp at this; omega
    have hz0 : w.heap.size < w1.heap.size := by omega
    have ne0 : ¬ w1.heap.size = w.heap.size := by omega
    have ne1 : ¬ w1.heap.size = w.heap.size + 1 := by omega
    have ne2 : ¬ w.heap.size = w1.heap.size := by omega
    have ne3 : ¬ w.heap.size + 1 = w1.heap.size := by omega
    have hB1 : Below w.heap.size w w1 := Below.trans (by repeat (first | exact Below.refl _ _ | refine Below.alloc ?_ (by simp <;> omega) _ | refine below_grow_of ?_ (by simp <;> omega) _ _ | refine Below.drew ?_)) (hb1.mono (by simp; omega))
    clear ho1 hf1 hb1
    go_wp2_with fail
    refine (ClockOk_spec _ ⟨⟨A, l.length, c⟩⟩ ⟨ep, l⟩ ⟨rd_up hr (hB1.alloc hB1.size _)⟩).mono ?_
    rw [k1]
    rintro e w2 ⟨rfl, hb2⟩
    have q0 : w2.cell? ⟨w1.heap.size, 0, none⟩ = some (.int .i64 ep) := cell_up hb2 (by simp <;> omega) (by simp [go_sem])
    have q1 : w2.cell? ⟨w1.heap.size, 1, none⟩ = some (.slice A1 n1 d1) := cell_up hb2 (by simp <;> omega) (by simp [go_sem])
    have qf0 : w2.frozen? ⟨w1.heap.size, 0, none⟩ = false := frozen_up hb2 (by simp <;> omega) (by simp [go_sem])
    replace p0 := up2 hb2 (by omega) p0
    replace p1 := up2 hb2 (by omega) p1
    replace r0 := up2 hb2 (by omega) r0
    replace r1 := up2 hb2 (by omega) r1
    replace rf0 := fup2 hb2 (by omega) rf0
    replace rf1 := fup2 hb2 (by omega) rf1
    have hz2 : w1.heap.size < w2.heap.size := by have := hb2.size; simp at this; omega
    have hov : OwL FPin 66 w2 (.slice A1 n1 d1) l := (hov1.alloc_ _).keep (fun g hg => hb2.block g (by have := hfl g (mem_foot1.2 hg); simp; omega))
    have hB2 : Below w.heap.size w w2 := (hB1.alloc hB1.size _).trans (hb2.mono (by simp; omega))
    clear hov1 hb2 hB1
    go_wp2_with (first | (go_at_call 36; refine (l1In_ct _ _ _ _).mono ?_; rintro e w3 ⟨rfl, rfl⟩) | (go_at_call 36; refine (l1In_ct _ _ _ _).mono ?_; rintro e w3 ⟨rfl, rfl⟩))
    refine bodyPost_ret (v := .tuple #[.agg #[.int .i64 ep, .slice A1 n1 d1], .bool false]) (by simp [results, Try.results47, go_sem, r0, r1]) rfl ⟨⟨⟨A1, n1, d1⟩⟩, by rw [HN.out], ⟨by rw [HN.out]; exact OwL.set_other (OwL.set_other hov (fun hm => by have a := hfv _ hm; have b := hfl _ hm; omega)) (fun hm => by have a := hfv _ hm; have b := hfl _ hm; omega)⟩, fun g hg => by have := hfv g hg; omega, by ((repeat (first | with_reducible exact hB2 | with_reducible refine Below.setCell ?_ ?_ _)); all_goals (simp <;> omega))⟩
  by_cases k3 : inB 0 ep e0 = true
  case neg =>
    have k3' : inB 0 ep e0 = false := (Bool.not_eq_true _).mp k3
    have HN := Hid.mk_ (show pinToC ⟨ep, l⟩ wk e0 = (⟨ep, l⟩, false) from if_neg (fun hh => k3 hh.2.2))
    clear k3
    show Calls Try.prog 47 #[.agg #[.int .i64 ep, .slice A l.length c], .int .i64 wk, .int .i64 e0] _ _
    go_enter Try.func47, Try.ntmps47
    go_wp2_with fail
    refine (copyClock_spec _ ⟨⟨A, l.length, c⟩⟩ ⟨ep, l⟩ ⟨rd_up hr (by repeat (first | exact Below.refl _ _ | refine Below.alloc ?_ (by simp <;> omega) _ | refine below_grow_of ?_ (by simp <;> omega) _ _ | refine Below.drew ?_))⟩ hs).mono ?_
    rintro e w1 ⟨⟨⟨A1, n1, d1⟩⟩, rfl, ho1, hf1, hb1⟩
    have hov1 : OwL FPin 66 w1 (.slice A1 n1 d1) l := ho1.Pins
    have hfv : ∀ g ∈ foot1 (.slice A1 n1 d1), w.heap.size + 1 < g := by intro g hg; have := hf1 g hg; simp at this; omega
    have hfl : ∀ g ∈ foot1 (.slice A1 n1 d1), g < w1.heap.size := foot_lt hov1
    have p0 : w1.cell? ⟨w.heap.size, 0, none⟩ = some (.int .i64 ep) := cell_up hb1 (by simp <;> omega) (by simp [go_sem])
    have p1 : w1.cell? ⟨w.heap.size, 1, none⟩ = some (.slice A l.length c) := cell_up hb1 (by simp <;> omega) (by simp [go_sem])
    have r0 : w1.cell? ⟨w.heap.size + 1, 0, none⟩ = some (.int .i64 0) := cell_up hb1 (by simp <;> omega) (by simp [go_sem])
    have r1 : w1.cell? ⟨w.heap.size + 1, 1, none⟩ = some (.slice none 0 0) := cell_up hb1 (by simp <;> omega) (by simp [go_sem])
    have rf0 : w1.frozen? ⟨w.heap.size + 1, 0, none⟩ = false := frozen_up hb1 (by simp <;> omega) (by simp [go_sem])
    have rf1 : w1.frozen? ⟨w.heap.size + 1, 1, none⟩ = false := frozen_up hb1 (by simp <;> omega) (by simp [go_sem])
    have hz1 : w.heap.size + 1 < w1.heap.size := by have := hb1.size; simp at this; omega
    have hz0 : w.heap.size < w1.heap.size := by omega
    have ne0 : ¬ w1.heap.size = w.heap.size := by omega
    have ne1 : ¬ w1.heap.size = w.heap.size + 1 := by omega
    have ne2 : ¬ w.heap.size = w1.heap.size := by omega
    have ne3 : ¬ w.heap.size + 1 = w1.heap.size := by omega
    have hB1 : Below w.heap.size w w1 := Below.trans (by repeat (first | exact Below.refl _ _ | refine Below.alloc ?_ (by simp <;> omega) _ | refine below_grow_of ?_ (by simp <;> omega) _ _ | refine Below.drew ?_)) (hb1.mono (by simp; omega))
    clear ho1 hf1 hb1
    go_wp2_with fail
    refine (ClockOk_spec _ ⟨⟨A, l.length, c⟩⟩ ⟨ep, l⟩ ⟨rd_up hr (hB1.alloc hB1.size _)⟩).mono ?_
    rw [k1]
    rintro e w2 ⟨rfl, hb2⟩
    have q0 : w2.cell? ⟨w1.heap.size, 0, none⟩ = some (.int .i64 ep) := cell_up hb2 (by simp <;> omega) (by simp [go_sem])
    have q1 : w2.cell? ⟨w1.heap.size, 1, none⟩ = some (.slice A1 n1 d1) := cell_up hb2 (by simp <;> omega) (by simp [go_sem])
    have qf0 : w2.frozen? ⟨w1.heap.size, 0, none⟩ = false := frozen_up hb2 (by simp <;> omega) (by simp [go_sem])
    replace p0 := up2 hb2 (by omega) p0
    replace p1 := up2 hb2 (by omega) p1
    replace r0 := up2 hb2 (by omega) r0
    replace r1 := up2 hb2 (by omega) r1
    replace rf0 := fup2 hb2 (by omega) rf0
    replace rf1 := fup2 hb2 (by omega) rf1
    have hz2 : w1.heap.size < w2.heap.size := by have := hb2.size; simp at this; omega
    have hov : OwL FPin 66 w2 (.slice A1 n1 d1) l := (hov1.alloc_ _).keep (fun g hg => hb2.block g (by have := hfl g (mem_foot1.2 hg); simp; omega))
    have hB2 : Below w.heap.size w w2 := (hB1.alloc hB1.size _).trans (hb2.mono (by simp; omega))
    clear hov1 hb2 hB1
    go_wp2_with (first | (go_at_call 36; refine (l1In_ct _ _ _ _).mono ?_; rintro e w3 ⟨rfl, rfl⟩) | (go_at_call 36; refine (l1In_ct _ _ _ _).mono ?_; rintro e w3 ⟨rfl, rfl⟩))
    refine bodyPost_ret (v := .tuple #[.agg #[.int .i64 ep, .slice A1 n1 d1], .bool false]) (by simp [results, Try.results47, go_sem, r0, r1]) rfl ⟨⟨⟨A1, n1, d1⟩⟩, by rw [HN.out], ⟨by rw [HN.out]; exact OwL.set_other (OwL.set_other hov (fun hm => by have a := hfv _ hm; have b := hfl _ hm; omega)) (fun hm => by have a := hfv _ hm; have b := hfl _ hm; omega)⟩, fun g hg => by have := hfv g hg; omega, by ((repeat (first | with_reducible exact hB2 | with_reducible refine Below.setCell ?_ ?_ _)); all_goals (simp <;> omega))⟩
  obtain ⟨k0, rfl⟩ := Int.eq_ofNat_of_zero_le (inB_iff.1 k2).1
  have H3 : Hid (l.length = 3) := clockOk_len k1
  have hk0 : k0 < l.length := by rw [H3.out]; have := (inB_iff.1 k2).2; omega
  obtain ⟨p, hp⟩ : ∃ p, l[k0]? = some p := ⟨_, List.getElem?_eq_getElem hk0⟩
  have HG : Hid (l.getD (k0 : Int).toNat pin0 = p) := Hid.mk_ (by rw [Int.toNat_natCast, List.getD, hp]; rfl)
  have HX := Hid.mk_ hp
  clear hp
  have HN := Hid.mk_ (show pinToC ⟨ep, l⟩ (k0 : Int) e0 = (⟨ep, l.set k0 ⟨true, e0, false, 0⟩⟩, true) from if_pos ⟨k1, k2, k3⟩)
  show Calls Try.prog 47 #[.agg #[.int .i64 ep, .slice A l.length c], .int .i64 (k0 : Int), .int .i64 e0] _ _
  go_enter Try.func47, Try.ntmps47
  go_wp2_with fail
  refine (copyClock_spec _ ⟨⟨A, l.length, c⟩⟩ ⟨ep, l⟩ ⟨rd_up hr (by repeat (first | exact Below.refl _ _ | refine Below.alloc ?_ (by simp <;> omega) _ | refine below_grow_of ?_ (by simp <;> omega) _ _ | refine Below.drew ?_))⟩ hs).mono ?_
  rintro e w1 ⟨⟨⟨A1, n1, d1⟩⟩, rfl, ho1, hf1, hb1⟩
  have hov1 : OwL FPin 66 w1 (.slice A1 n1 d1) l := ho1.Pins
  have hfv : ∀ g ∈ foot1 (.slice A1 n1 d1), w.heap.size + 1 < g := by intro g hg; have := hf1 g hg; simp at this; omega
  have hfl : ∀ g ∈ foot1 (.slice A1 n1 d1), g < w1.heap.size := foot_lt hov1
  have p0 : w1.cell? ⟨w.heap.size, 0, none⟩ = some (.int .i64 ep) := cell_up hb1 (by simp <;> omega) (by simp [go_sem])
  have p1 : w1.cell? ⟨w.heap.size, 1, none⟩ = some (.slice A l.length c) := cell_up hb1 (by simp <;> omega) (by simp [go_sem])
  have r0 : w1.cell? ⟨w.heap.size + 1, 0, none⟩ = some (.int .i64 0) := cell_up hb1 (by simp <;> omega) (by simp [go_sem])
  have r1 : w1.cell? ⟨w.heap.size + 1, 1, none⟩ = some (.slice none 0 0) := cell_up hb1 (by simp <;> omega) (by simp [go_sem])
  have rf0 : w1.frozen? ⟨w.heap.size + 1, 0, none⟩ = false := frozen_up hb1 (by simp <;> omega) (by simp [go_sem])
  have rf1 : w1.frozen? ⟨w.heap.size + 1, 1, none⟩ = false := frozen_up hb1 (by simp <;> omega) (by simp [go_sem])
  have hz1 : w.heap.size + 1 < w1.heap.size := by have := hb1.size; simp at this; omega
  have hz0 : w.heap.size < w1.heap.size := by omega
  have ne0 : ¬ w1.heap.size = w.heap.size := by omega
  have ne1 : ¬ w1.heap.size = w.heap.size + 1 := by omega
  have ne2 : ¬ w.heap.size = w1.heap.size := by omega
  have ne3 : ¬ w.heap.size + 1 = w1.heap.size := by omega
  have hB1 : Below w.heap.size w w1 := Below.trans (by repeat (first | exact Below.refl _ _ | refine Below.alloc ?_ (by simp <;> omega) _ | refine below_grow_of ?_ (by simp <;> omega) _ _ | refine Below.drew ?_)) (hb1.mono (by simp; omega))
  clear ho1 hf1 hb1
  go_wp2_with fail
  refine (ClockOk_spec _ ⟨⟨A, l.length, c⟩⟩ ⟨ep, l⟩ ⟨rd_up hr (hB1.alloc hB1.size _)⟩).mono ?_
  rw [k1]
  rintro e w2 ⟨rfl, hb2⟩
  have q0 : w2.cell? ⟨w1.heap.size, 0, none⟩ = some (.int .i64 ep) := cell_up hb2 (by simp <;> omega) (by simp [go_sem])
  have q1 : w2.cell? ⟨w1.heap.size, 1, none⟩ = some (.slice A1 n1 d1) := cell_up hb2 (by simp <;> omega) (by simp [go_sem])
  have qf0 : w2.frozen? ⟨w1.heap.size, 0, none⟩ = false := frozen_up hb2 (by simp <;> omega) (by simp [go_sem])
  replace p0 := up2 hb2 (by omega) p0
  replace p1 := up2 hb2 (by omega) p1
  replace r0 := up2 hb2 (by omega) r0
  replace r1 := up2 hb2 (by omega) r1
  replace rf0 := fup2 hb2 (by omega) rf0
  replace rf1 := fup2 hb2 (by omega) rf1
  have hz2 : w1.heap.size < w2.heap.size := by have := hb2.size; simp at this; omega
  have hov : OwL FPin 66 w2 (.slice A1 n1 d1) l := (hov1.alloc_ _).keep (fun g hg => hb2.block g (by have := hfl g (mem_foot1.2 hg); simp; omega))
  have hB2 : Below w.heap.size w w2 := (hB1.alloc hB1.size _).trans (hb2.mono (by simp; omega))
  clear hov1 hb2 hB1
  obtain ⟨g, cap, hv, hg⟩ := hov.form_pos (by rw [H3.out]; decide)
  simp only [Value.slice.injEq] at hv
  obtain ⟨rfl, rfl, rfl⟩ := hv
  have hg1 : w.heap.size + 1 < g := hfv g (mem_foot1.2 rfl)
  have hg2 : g < w1.heap.size := hfl g (mem_foot1.2 rfl)
  have ng0 : ¬ g = w.heap.size := by omega
  have ng1 : ¬ g = w.heap.size + 1 := by omega
  have ng2 : ¬ g = w1.heap.size := by omega
  have ng3 : ¬ w.heap.size = g := by omega
  have ng4 : ¬ w.heap.size + 1 = g := by omega
  have ng5 : ¬ w1.heap.size = g := by omega
  have x0 : w2.cell? ⟨g, k0 * 4, none⟩ = some (.bool p.On) := hov.cell_ (j := 0) HX.out (by decide)
  have xf0 := hov.frozen_ (k0 * 4)
  have x1 : w2.cell? ⟨g, k0 * 4 + 1, none⟩ = some (.int .i64 p.Epoch) := hov.cell_ (j := 1) HX.out (by decide)
  have xf1 := hov.frozen_ (k0 * 4 + 1)
  have x2 : w2.cell? ⟨g, k0 * 4 + 2, none⟩ = some (.bool p.Marked) := hov.cell_ (j := 2) HX.out (by decide)
  have xf2 := hov.frozen_ (k0 * 4 + 2)
  have x3 : w2.cell? ⟨g, k0 * 4 + 3, none⟩ = some (.int .i64 p.Seen) := hov.cell_ (j := 3) HX.out (by decide)
  have xf3 := hov.frozen_ (k0 * 4 + 3)
  go_wp2_with (first | (go_at_call 36; refine (l1In_ct _ _ _ _).mono ?_; rintro e w3 ⟨rfl, rfl⟩) | (go_at_call 36; refine (l1In_ct _ _ _ _).mono ?_; rintro e w3 ⟨rfl, rfl⟩))
  have s0 := hov.set_ (k := k0) (j := 0) (y := (⟨true, p.Epoch, p.Marked, p.Seen⟩ : Pin)) (u := .bool true) HX.out (by decide) rfl
  have s1 := s0.set_ (k := k0) (j := 1) (y := (⟨true, e0, p.Marked, p.Seen⟩ : Pin)) (u := .int .i64 e0) (set_get (⟨true, p.Epoch, p.Marked, p.Seen⟩ : Pin) HX.out) (by decide) rfl
  have s2 := s1.set_ (k := k0) (j := 2) (y := (⟨true, e0, false, p.Seen⟩ : Pin)) (u := .bool false) (set_get (⟨true, e0, p.Marked, p.Seen⟩ : Pin) (set_get (⟨true, p.Epoch, p.Marked, p.Seen⟩ : Pin) HX.out)) (by decide) rfl
  have s3 := s2.set_ (k := k0) (j := 3) (y := (⟨true, e0, false, 0⟩ : Pin)) (u := .int .i64 0) (set_get (⟨true, e0, false, p.Seen⟩ : Pin) (set_get (⟨true, e0, p.Marked, p.Seen⟩ : Pin) (set_get (⟨true, p.Epoch, p.Marked, p.Seen⟩ : Pin) HX.out))) (by decide) rfl
  simp only [List.set_set] at s3
  refine bodyPost_ret (v := .tuple #[.agg #[.int .i64 ep, .slice (some ⟨g, 0, none⟩) l.length d1], .bool true]) (by simp [results, Try.results47, go_sem, r0, r1]) rfl ⟨⟨⟨some ⟨g, 0, none⟩, l.length, d1⟩⟩, by rw [HN.out], ⟨by rw [HN.out]; exact OwL.set_other (OwL.set_other s3 (fun hm => by have a := hfv _ hm; have b := hfl _ hm; omega)) (fun hm => by have a := hfv _ hm; have b := hfl _ hm; omega)⟩, fun g hg => by have := hfv g hg; omega, by ((repeat (first | with_reducible exact hB2 | with_reducible refine Below.setCell ?_ ?_ _)); all_goals (simp <;> omega))⟩

set_option maxRecDepth 100000 in
set_option maxHeartbeats 400000 in
theorem Unpin_impl (w : World) (H : HClock) (x : Clock) (wk : Int) (h : RdClock w w.heap.size H x) (hs : x.Pins.length ≤ 1073741824) :
    Calls Try.prog 22 #[.agg #[.int .i64 x.Epoch, .slice H.Pins.a H.Pins.len H.Pins.cap], .int .i64 wk] w fun e w' => ∃ H' : HClock, e = .returned (.tuple #[H'.val (unpinC x wk).1, .bool (unpinC x wk).2]) ∧ OwClock w' H' (unpinC x wk).1 ∧ (∀ g ∈ H'.foot, w.heap.size ≤ g) ∧ Below w.heap.size w w' := by
  obtain ⟨⟨A, n, c⟩⟩ := H
  obtain ⟨ep, l⟩ := x
  have hr : RdL FPin w w.heap.size (.slice A n c) l := h.Pins
  obtain ⟨_, _, hv, q1, q2, qx⟩ := id hr
  simp only [Value.slice.injEq] at hv
  obtain ⟨rfl, rfl, rfl⟩ := hv
  have hlt0 : l.length ≤ 9223372036854775807 := by unfold maxLen at q2; omega
  clear q1 q2 qx h
  simp only at hs
  by_cases k1 : clockOkB ⟨ep, l⟩ = true
  case neg =>
    have k1' : clockOkB ⟨ep, l⟩ = false := (Bool.not_eq_true _).mp k1
    have HN := Hid.mk_ (show unpinC ⟨ep, l⟩ wk = (⟨ep, l⟩, false) from if_neg (fun hh => k1 hh.1))
    clear k1
    show Calls Try.prog 22 #[.agg #[.int .i64 ep, .slice A l.length c], .int .i64 wk] _ _
    go_enter Try.func22, Try.ntmps22
    go_wp2_with fail
    refine (copyClock_impl _ ⟨⟨A, l.length, c⟩⟩ ⟨ep, l⟩ ⟨rd_up hr (by repeat (first | exact Below.refl _ _ | refine Below.alloc ?_ (by simp <;> omega) _ | refine below_grow_of ?_ (by simp <;> omega) _ _ | refine Below.drew ?_))⟩ hs).mono ?_
    rintro e w1 ⟨⟨⟨A1, n1, d1⟩⟩, rfl, ho1, hf1, hb1⟩
    have hov1 : OwL FPin 66 w1 (.slice A1 n1 d1) l := ho1.Pins
    have hfv : ∀ g ∈ foot1 (.slice A1 n1 d1), w.heap.size + 1 < g := by intro g hg; have := hf1 g hg; simp at this; omega
    have hfl : ∀ g ∈ foot1 (.slice A1 n1 d1), g < w1.heap.size := foot_lt hov1
    have p0 : w1.cell? ⟨w.heap.size, 0, none⟩ = some (.int .i64 ep) := cell_up hb1 (by simp <;> omega) (by simp [go_sem])
    have p1 : w1.cell? ⟨w.heap.size, 1, none⟩ = some (.slice A l.length c) := cell_up hb1 (by simp <;> omega) (by simp [go_sem])
    have r0 : w1.cell? ⟨w.heap.size + 1, 0, none⟩ = some (.int .i64 0) := cell_up hb1 (by simp <;> omega) (by simp [go_sem])
    have r1 : w1.cell? ⟨w.heap.size + 1, 1, none⟩ = some (.slice none 0 0) := cell_up hb1 (by simp <;> omega) (by simp [go_sem])
    have rf0 : w1.frozen? ⟨w.heap.size + 1, 0, none⟩ = false := frozen_up hb1 (by simp <;> omega) (by simp [go_sem])
    have rf1 : w1.frozen? ⟨w.heap.size + 1, 1, none⟩ = false := frozen_up hb1 (by simp <;> omega) (by simp [go_sem])
    have hz1 : w.heap.size + 1 < w1.heap.size := by have := hb1.size; simp at this; omega
    have hz0 : w.heap.size < w1.heap.size := by omega
    have ne0 : ¬ w1.heap.size = w.heap.size := by omega
    have ne1 : ¬ w1.heap.size = w.heap.size + 1 := by omega
    have ne2 : ¬ w.heap.size = w1.heap.size := by omega
    have ne3 : ¬ w.heap.size + 1 = w1.heap.size := by omega
    have hB1 : Below w.heap.size w w1 := Below.trans (by repeat (first | exact Below.refl _ _ | refine Below.alloc ?_ (by simp <;> omega) _ | refine below_grow_of ?_ (by simp <;> omega) _ _ | refine Below.drew ?_)) (hb1.mono (by simp; omega))
    clear ho1 hf1 hb1
    go_wp2_with fail
    refine (ClockOk_impl _ ⟨⟨A, l.length, c⟩⟩ ⟨ep, l⟩ ⟨rd_up hr (hB1.alloc hB1.size _)⟩).mono ?_
    rw [k1']
    rintro e w2 ⟨rfl, hb2⟩
    have q0 : w2.cell? ⟨w1.heap.size, 0, none⟩ = some (.int .i64 ep) := cell_up hb2 (by simp <;> omega) (by simp [go_sem])
    have q1 : w2.cell? ⟨w1.heap.size, 1, none⟩ = some (.slice A1 n1 d1) := cell_up hb2 (by simp <;> omega) (by simp [go_sem])
    have qf0 : w2.frozen? ⟨w1.heap.size, 0, none⟩ = false := frozen_up hb2 (by simp <;> omega) (by simp [go_sem])
    replace p0 := up2 hb2 (by omega) p0
    replace p1 := up2 hb2 (by omega) p1
    replace r0 := up2 hb2 (by omega) r0
    replace r1 := up2 hb2 (by omega) r1
    replace rf0 := fup2 hb2 (by omega) rf0
    replace rf1 := fup2 hb2 (by omega) rf1
    have hz2 : w1.heap.size < w2.heap.size := by have := hb2.size; simp at this; omega
    have hov : OwL FPin 66 w2 (.slice A1 n1 d1) l := (hov1.alloc_ _).keep (fun g hg => hb2.block g (by have := hfl g (mem_foot1.2 hg); simp; omega))
    have hB2 : Below w.heap.size w w2 := (hB1.alloc hB1.size _).trans (hb2.mono (by simp; omega))
    clear hov1 hb2 hB1
    go_wp2_with fail
    refine bodyPost_ret (v := .tuple #[.agg #[.int .i64 ep, .slice A1 n1 d1], .bool false]) (by simp [results, Try.results22, go_sem, r0, r1]) rfl ⟨⟨⟨A1, n1, d1⟩⟩, by rw [HN.out], ⟨by rw [HN.out]; exact OwL.set_other (OwL.set_other hov (fun hm => by have a := hfv _ hm; have b := hfl _ hm; omega)) (fun hm => by have a := hfv _ hm; have b := hfl _ hm; omega)⟩, fun g hg => by have := hfv g hg; omega, by ((repeat (first | with_reducible exact hB2 | with_reducible refine Below.setCell ?_ ?_ _)); all_goals (simp <;> omega))⟩
  by_cases k2 : inB 0 2 wk = true
  case neg =>
    have k2' : inB 0 2 wk = false := (Bool.not_eq_true _).mp k2
    have HN := Hid.mk_ (show unpinC ⟨ep, l⟩ wk = (⟨ep, l⟩, false) from if_neg (fun hh => k2 hh.2.1))
    clear k2
    show Calls Try.prog 22 #[.agg #[.int .i64 ep, .slice A l.length c], .int .i64 wk] _ _
    go_enter Try.func22, Try.ntmps22
    go_wp2_with fail
    refine (copyClock_impl _ ⟨⟨A, l.length, c⟩⟩ ⟨ep, l⟩ ⟨rd_up hr (by repeat (first | exact Below.refl _ _ | refine Below.alloc ?_ (by simp <;> omega) _ | refine below_grow_of ?_ (by simp <;> omega) _ _ | refine Below.drew ?_))⟩ hs).mono ?_
    rintro e w1 ⟨⟨⟨A1, n1, d1⟩⟩, rfl, ho1, hf1, hb1⟩
    have hov1 : OwL FPin 66 w1 (.slice A1 n1 d1) l := ho1.Pins
    have hfv : ∀ g ∈ foot1 (.slice A1 n1 d1), w.heap.size + 1 < g := by intro g hg; have := hf1 g hg; simp at this; omega
    have hfl : ∀ g ∈ foot1 (.slice A1 n1 d1), g < w1.heap.size := foot_lt hov1
    have p0 : w1.cell? ⟨w.heap.size, 0, none⟩ = some (.int .i64 ep) := cell_up hb1 (by simp <;> omega) (by simp [go_sem])
    have p1 : w1.cell? ⟨w.heap.size, 1, none⟩ = some (.slice A l.length c) := cell_up hb1 (by simp <;> omega) (by simp [go_sem])
    have r0 : w1.cell? ⟨w.heap.size + 1, 0, none⟩ = some (.int .i64 0) := cell_up hb1 (by simp <;> omega) (by simp [go_sem])
    have r1 : w1.cell? ⟨w.heap.size + 1, 1, none⟩ = some (.slice none 0 0) := cell_up hb1 (by simp <;> omega) (by simp [go_sem])
    have rf0 : w1.frozen? ⟨w.heap.size + 1, 0, none⟩ = false := frozen_up hb1 (by simp <;> omega) (by simp [go_sem])
    have rf1 : w1.frozen? ⟨w.heap.size + 1, 1, none⟩ = false := frozen_up hb1 (by simp <;> omega) (by simp [go_sem])
    have hz1 : w.heap.size + 1 < w1.heap.size := by have := hb1.size; simp at this; omega
    have hz0 : w.heap.size < w1.heap.size := by omega
    have ne0 : ¬ w1.heap.size = w.heap.size := by omega
    have ne1 : ¬ w1.heap.size = w.heap.size + 1 := by omega
    have ne2 : ¬ w.heap.size = w1.heap.size := by omega
    have ne3 : ¬ w.heap.size + 1 = w1.heap.size := by omega
    have hB1 : Below w.heap.size w w1 := Below.trans (by repeat (first | exact Below.refl _ _ | refine Below.alloc ?_ (by simp <;> omega) _ | refine below_grow_of ?_ (by simp <;> omega) _ _ | refine Below.drew ?_)) (hb1.mono (by simp; omega))
    clear ho1 hf1 hb1
    go_wp2_with fail
    refine (ClockOk_impl _ ⟨⟨A, l.length, c⟩⟩ ⟨ep, l⟩ ⟨rd_up hr (hB1.alloc hB1.size _)⟩).mono ?_
    rw [k1]
    rintro e w2 ⟨rfl, hb2⟩
    have q0 : w2.cell? ⟨w1.heap.size, 0, none⟩ = some (.int .i64 ep) := cell_up hb2 (by simp <;> omega) (by simp [go_sem])
    have q1 : w2.cell? ⟨w1.heap.size, 1, none⟩ = some (.slice A1 n1 d1) := cell_up hb2 (by simp <;> omega) (by simp [go_sem])
    have qf0 : w2.frozen? ⟨w1.heap.size, 0, none⟩ = false := frozen_up hb2 (by simp <;> omega) (by simp [go_sem])
    replace p0 := up2 hb2 (by omega) p0
    replace p1 := up2 hb2 (by omega) p1
    replace r0 := up2 hb2 (by omega) r0
    replace r1 := up2 hb2 (by omega) r1
    replace rf0 := fup2 hb2 (by omega) rf0
    replace rf1 := fup2 hb2 (by omega) rf1
    have hz2 : w1.heap.size < w2.heap.size := by have := hb2.size; simp at this; omega
    have hov : OwL FPin 66 w2 (.slice A1 n1 d1) l := (hov1.alloc_ _).keep (fun g hg => hb2.block g (by have := hfl g (mem_foot1.2 hg); simp; omega))
    have hB2 : Below w.heap.size w w2 := (hB1.alloc hB1.size _).trans (hb2.mono (by simp; omega))
    clear hov1 hb2 hB1
    go_wp2_with (go_at_call 34; refine (isWorker_ct _ _).mono ?_; rintro e w3 ⟨rfl, rfl⟩)
    refine bodyPost_ret (v := .tuple #[.agg #[.int .i64 ep, .slice A1 n1 d1], .bool false]) (by simp [results, Try.results22, go_sem, r0, r1]) rfl ⟨⟨⟨A1, n1, d1⟩⟩, by rw [HN.out], ⟨by rw [HN.out]; exact OwL.set_other (OwL.set_other hov (fun hm => by have a := hfv _ hm; have b := hfl _ hm; omega)) (fun hm => by have a := hfv _ hm; have b := hfl _ hm; omega)⟩, fun g hg => by have := hfv g hg; omega, by ((repeat (first | with_reducible exact hB2 | with_reducible refine Below.setCell ?_ ?_ _)); all_goals (simp <;> omega))⟩
  obtain ⟨k0, rfl⟩ := Int.eq_ofNat_of_zero_le (inB_iff.1 k2).1
  have H3 : Hid (l.length = 3) := clockOk_len k1
  have hk0 : k0 < l.length := by rw [H3.out]; have := (inB_iff.1 k2).2; omega
  obtain ⟨p, hp⟩ : ∃ p, l[k0]? = some p := ⟨_, List.getElem?_eq_getElem hk0⟩
  have HG : Hid (l.getD (k0 : Int).toNat pin0 = p) := Hid.mk_ (by rw [Int.toNat_natCast, List.getD, hp]; rfl)
  have HX := Hid.mk_ hp
  clear hp
  obtain ⟨gi, oi, ci, hvi, hgi, _, _, hci⟩ := hr.at_ HX.out
  simp only [Value.slice.injEq] at hvi
  obtain ⟨rfl, _, rfl⟩ := hvi
  have y0 : w.cell? ⟨gi, oi + k0 * 4, none⟩ = some (.bool p.On) := hci 0 _ rfl
  have y1 : w.cell? ⟨gi, oi + k0 * 4 + 1, none⟩ = some (.int .i64 p.Epoch) := hci 1 _ rfl
  have y2 : w.cell? ⟨gi, oi + k0 * 4 + 2, none⟩ = some (.bool p.Marked) := hci 2 _ rfl
  have y3 : w.cell? ⟨gi, oi + k0 * 4 + 3, none⟩ = some (.int .i64 p.Seen) := hci 3 _ rfl
  clear hci
  by_cases k3 : p.On = true
  case neg =>
    have k3' : p.On = false := (Bool.not_eq_true _).mp k3
    have HN := Hid.mk_ (show unpinC ⟨ep, l⟩ (k0 : Int) = (⟨ep, l⟩, false) from if_neg (fun hh => by have a := hh.2.2; rw [HG.out] at a; exact k3 a))
    clear k3
    show Calls Try.prog 22 #[.agg #[.int .i64 ep, .slice (some ⟨gi, oi, none⟩) l.length c], .int .i64 (k0 : Int)] _ _
    go_enter Try.func22, Try.ntmps22
    go_wp2_with fail
    refine (copyClock_impl _ ⟨⟨some ⟨gi, oi, none⟩, l.length, c⟩⟩ ⟨ep, l⟩ ⟨rd_up hr (by repeat (first | exact Below.refl _ _ | refine Below.alloc ?_ (by simp <;> omega) _ | refine below_grow_of ?_ (by simp <;> omega) _ _ | refine Below.drew ?_))⟩ hs).mono ?_
    rintro e w1 ⟨⟨⟨A1, n1, d1⟩⟩, rfl, ho1, hf1, hb1⟩
    have hov1 : OwL FPin 66 w1 (.slice A1 n1 d1) l := ho1.Pins
    have hfv : ∀ g ∈ foot1 (.slice A1 n1 d1), w.heap.size + 1 < g := by intro g hg; have := hf1 g hg; simp at this; omega
    have hfl : ∀ g ∈ foot1 (.slice A1 n1 d1), g < w1.heap.size := foot_lt hov1
    have p0 : w1.cell? ⟨w.heap.size, 0, none⟩ = some (.int .i64 ep) := cell_up hb1 (by simp <;> omega) (by simp [go_sem])
    have p1 : w1.cell? ⟨w.heap.size, 1, none⟩ = some (.slice (some ⟨gi, oi, none⟩) l.length c) := cell_up hb1 (by simp <;> omega) (by simp [go_sem])
    have r0 : w1.cell? ⟨w.heap.size + 1, 0, none⟩ = some (.int .i64 0) := cell_up hb1 (by simp <;> omega) (by simp [go_sem])
    have r1 : w1.cell? ⟨w.heap.size + 1, 1, none⟩ = some (.slice none 0 0) := cell_up hb1 (by simp <;> omega) (by simp [go_sem])
    have rf0 : w1.frozen? ⟨w.heap.size + 1, 0, none⟩ = false := frozen_up hb1 (by simp <;> omega) (by simp [go_sem])
    have rf1 : w1.frozen? ⟨w.heap.size + 1, 1, none⟩ = false := frozen_up hb1 (by simp <;> omega) (by simp [go_sem])
    have hz1 : w.heap.size + 1 < w1.heap.size := by have := hb1.size; simp at this; omega
    have hz0 : w.heap.size < w1.heap.size := by omega
    have ne0 : ¬ w1.heap.size = w.heap.size := by omega
    have ne1 : ¬ w1.heap.size = w.heap.size + 1 := by omega
    have ne2 : ¬ w.heap.size = w1.heap.size := by omega
    have ne3 : ¬ w.heap.size + 1 = w1.heap.size := by omega
    have hB1 : Below w.heap.size w w1 := Below.trans (by repeat (first | exact Below.refl _ _ | refine Below.alloc ?_ (by simp <;> omega) _ | refine below_grow_of ?_ (by simp <;> omega) _ _ | refine Below.drew ?_)) (hb1.mono (by simp; omega))
    clear ho1 hf1 hb1
    go_wp2_with fail
    refine (ClockOk_impl _ ⟨⟨some ⟨gi, oi, none⟩, l.length, c⟩⟩ ⟨ep, l⟩ ⟨rd_up hr (hB1.alloc hB1.size _)⟩).mono ?_
    rw [k1]
    rintro e w2 ⟨rfl, hb2⟩
    have q0 : w2.cell? ⟨w1.heap.size, 0, none⟩ = some (.int .i64 ep) := cell_up hb2 (by simp <;> omega) (by simp [go_sem])
    have q1 : w2.cell? ⟨w1.heap.size, 1, none⟩ = some (.slice A1 n1 d1) := cell_up hb2 (by simp <;> omega) (by simp [go_sem])
    have qf0 : w2.frozen? ⟨w1.heap.size, 0, none⟩ = false := frozen_up hb2 (by simp <;> omega) (by simp [go_sem])
    replace p0 := up2 hb2 (by omega) p0
    replace p1 := up2 hb2 (by omega) p1
    replace r0 := up2 hb2 (by omega) r0
    replace r1 := up2 hb2 (by omega) r1
    replace rf0 := fup2 hb2 (by omega) rf0
    replace rf1 := fup2 hb2 (by omega) rf1
    have hz2 : w1.heap.size < w2.heap.size := by have := hb2.size; simp at this; omega
    have hov : OwL FPin 66 w2 (.slice A1 n1 d1) l := (hov1.alloc_ _).keep (fun g hg => hb2.block g (by have := hfl g (mem_foot1.2 hg); simp; omega))
    have hB2 : Below w.heap.size w w2 := (hB1.alloc hB1.size _).trans (hb2.mono (by simp; omega))
    clear hov1 hb2 hB1
    replace y0 := cell_up hB2 hgi y0
    replace y1 := cell_up hB2 hgi y1
    replace y2 := cell_up hB2 hgi y2
    replace y3 := cell_up hB2 hgi y3
    go_wp2_with (go_at_call 34; refine (isWorker_ct _ _).mono ?_; rintro e w3 ⟨rfl, rfl⟩)
    refine bodyPost_ret (v := .tuple #[.agg #[.int .i64 ep, .slice A1 n1 d1], .bool false]) (by simp [results, Try.results22, go_sem, r0, r1]) rfl ⟨⟨⟨A1, n1, d1⟩⟩, by rw [HN.out], ⟨by rw [HN.out]; exact OwL.set_other (OwL.set_other hov (fun hm => by have a := hfv _ hm; have b := hfl _ hm; omega)) (fun hm => by have a := hfv _ hm; have b := hfl _ hm; omega)⟩, fun g hg => by have := hfv g hg; omega, by ((repeat (first | with_reducible exact hB2 | with_reducible refine Below.setCell ?_ ?_ _)); all_goals (simp <;> omega))⟩
  have HN := Hid.mk_ (show unpinC ⟨ep, l⟩ (k0 : Int) = (⟨ep, l.set k0 ⟨false, 0, false, 0⟩⟩, true) from if_pos ⟨k1, k2, by rw [HG.out]; exact k3⟩)
  show Calls Try.prog 22 #[.agg #[.int .i64 ep, .slice (some ⟨gi, oi, none⟩) l.length c], .int .i64 (k0 : Int)] _ _
  go_enter Try.func22, Try.ntmps22
  go_wp2_with fail
  refine (copyClock_impl _ ⟨⟨some ⟨gi, oi, none⟩, l.length, c⟩⟩ ⟨ep, l⟩ ⟨rd_up hr (by repeat (first | exact Below.refl _ _ | refine Below.alloc ?_ (by simp <;> omega) _ | refine below_grow_of ?_ (by simp <;> omega) _ _ | refine Below.drew ?_))⟩ hs).mono ?_
  rintro e w1 ⟨⟨⟨A1, n1, d1⟩⟩, rfl, ho1, hf1, hb1⟩
  have hov1 : OwL FPin 66 w1 (.slice A1 n1 d1) l := ho1.Pins
  have hfv : ∀ g ∈ foot1 (.slice A1 n1 d1), w.heap.size + 1 < g := by intro g hg; have := hf1 g hg; simp at this; omega
  have hfl : ∀ g ∈ foot1 (.slice A1 n1 d1), g < w1.heap.size := foot_lt hov1
  have p0 : w1.cell? ⟨w.heap.size, 0, none⟩ = some (.int .i64 ep) := cell_up hb1 (by simp <;> omega) (by simp [go_sem])
  have p1 : w1.cell? ⟨w.heap.size, 1, none⟩ = some (.slice (some ⟨gi, oi, none⟩) l.length c) := cell_up hb1 (by simp <;> omega) (by simp [go_sem])
  have r0 : w1.cell? ⟨w.heap.size + 1, 0, none⟩ = some (.int .i64 0) := cell_up hb1 (by simp <;> omega) (by simp [go_sem])
  have r1 : w1.cell? ⟨w.heap.size + 1, 1, none⟩ = some (.slice none 0 0) := cell_up hb1 (by simp <;> omega) (by simp [go_sem])
  have rf0 : w1.frozen? ⟨w.heap.size + 1, 0, none⟩ = false := frozen_up hb1 (by simp <;> omega) (by simp [go_sem])
  have rf1 : w1.frozen? ⟨w.heap.size + 1, 1, none⟩ = false := frozen_up hb1 (by simp <;> omega) (by simp [go_sem])
  have hz1 : w.heap.size + 1 < w1.heap.size := by have := hb1.size; simp at this; omega
  have hz0 : w.heap.size < w1.heap.size := by omega
  have ne0 : ¬ w1.heap.size = w.heap.size := by omega
  have ne1 : ¬ w1.heap.size = w.heap.size + 1 := by omega
  have ne2 : ¬ w.heap.size = w1.heap.size := by omega
  have ne3 : ¬ w.heap.size + 1 = w1.heap.size := by omega
  have hB1 : Below w.heap.size w w1 := Below.trans (by repeat (first | exact Below.refl _ _ | refine Below.alloc ?_ (by simp <;> omega) _ | refine below_grow_of ?_ (by simp <;> omega) _ _ | refine Below.drew ?_)) (hb1.mono (by simp; omega))
  clear ho1 hf1 hb1
  go_wp2_with fail
  refine (ClockOk_impl _ ⟨⟨some ⟨gi, oi, none⟩, l.length, c⟩⟩ ⟨ep, l⟩ ⟨rd_up hr (hB1.alloc hB1.size _)⟩).mono ?_
  rw [k1]
  rintro e w2 ⟨rfl, hb2⟩
  have q0 : w2.cell? ⟨w1.heap.size, 0, none⟩ = some (.int .i64 ep) := cell_up hb2 (by simp <;> omega) (by simp [go_sem])
  have q1 : w2.cell? ⟨w1.heap.size, 1, none⟩ = some (.slice A1 n1 d1) := cell_up hb2 (by simp <;> omega) (by simp [go_sem])
  have qf0 : w2.frozen? ⟨w1.heap.size, 0, none⟩ = false := frozen_up hb2 (by simp <;> omega) (by simp [go_sem])
  replace p0 := up2 hb2 (by omega) p0
  replace p1 := up2 hb2 (by omega) p1
  replace r0 := up2 hb2 (by omega) r0
  replace r1 := up2 hb2 (by omega) r1
  replace rf0 := fup2 hb2 (by omega) rf0
  replace rf1 := fup2 hb2 (by omega) rf1
  have hz2 : w1.heap.size < w2.heap.size := by have := hb2.size; simp at this; omega
  have hov : OwL FPin 66 w2 (.slice A1 n1 d1) l := (hov1.alloc_ _).keep (fun g hg => hb2.block g (by have := hfl g (mem_foot1.2 hg); simp; omega))
  have hB2 : Below w.heap.size w w2 := (hB1.alloc hB1.size _).trans (hb2.mono (by simp; omega))
  clear hov1 hb2 hB1
  replace y0 := cell_up hB2 hgi y0
  replace y1 := cell_up hB2 hgi y1
  replace y2 := cell_up hB2 hgi y2
  replace y3 := cell_up hB2 hgi y3
  obtain ⟨g, cap, hv, hg⟩ := hov.form_pos (by rw [H3.out]; decide)
  simp only [Value.slice.injEq] at hv
  obtain ⟨rfl, rfl, rfl⟩ := hv
  have hg1 : w.heap.size + 1 < g := hfv g (mem_foot1.2 rfl)
  have hg2 : g < w1.heap.size := hfl g (mem_foot1.2 rfl)
  have ng0 : ¬ g = w.heap.size := by omega
  have ng1 : ¬ g = w.heap.size + 1 := by omega
  have ng2 : ¬ g = w1.heap.size := by omega
  have ng3 : ¬ w.heap.size = g := by omega
  have ng4 : ¬ w.heap.size + 1 = g := by omega
  have ng5 : ¬ w1.heap.size = g := by omega
  have x0 : w2.cell? ⟨g, k0 * 4, none⟩ = some (.bool p.On) := hov.cell_ (j := 0) HX.out (by decide)
  have xf0 := hov.frozen_ (k0 * 4)
  have x1 : w2.cell? ⟨g, k0 * 4 + 1, none⟩ = some (.int .i64 p.Epoch) := hov.cell_ (j := 1) HX.out (by decide)
  have xf1 := hov.frozen_ (k0 * 4 + 1)
  have x2 : w2.cell? ⟨g, k0 * 4 + 2, none⟩ = some (.bool p.Marked) := hov.cell_ (j := 2) HX.out (by decide)
  have xf2 := hov.frozen_ (k0 * 4 + 2)
  have x3 : w2.cell? ⟨g, k0 * 4 + 3, none⟩ = some (.int .i64 p.Seen) := hov.cell_ (j := 3) HX.out (by decide)
  have xf3 := hov.frozen_ (k0 * 4 + 3)
  go_wp2_with (go_at_call 34; refine (isWorker_ct _ _).mono ?_; rintro e w3 ⟨rfl, rfl⟩)
  have s0 := hov.set_ (k := k0) (j := 0) (y := (⟨false, p.Epoch, p.Marked, p.Seen⟩ : Pin)) (u := .bool false) HX.out (by decide) rfl
  have s1 := s0.set_ (k := k0) (j := 1) (y := (⟨false, 0, p.Marked, p.Seen⟩ : Pin)) (u := .int .i64 0) (set_get (⟨false, p.Epoch, p.Marked, p.Seen⟩ : Pin) HX.out) (by decide) rfl
  have s2 := s1.set_ (k := k0) (j := 2) (y := (⟨false, 0, false, p.Seen⟩ : Pin)) (u := .bool false) (set_get (⟨false, 0, p.Marked, p.Seen⟩ : Pin) (set_get (⟨false, p.Epoch, p.Marked, p.Seen⟩ : Pin) HX.out)) (by decide) rfl
  have s3 := s2.set_ (k := k0) (j := 3) (y := (⟨false, 0, false, 0⟩ : Pin)) (u := .int .i64 0) (set_get (⟨false, 0, false, p.Seen⟩ : Pin) (set_get (⟨false, 0, p.Marked, p.Seen⟩ : Pin) (set_get (⟨false, p.Epoch, p.Marked, p.Seen⟩ : Pin) HX.out))) (by decide) rfl
  simp only [List.set_set] at s3
  refine bodyPost_ret (v := .tuple #[.agg #[.int .i64 ep, .slice (some ⟨g, 0, none⟩) l.length d1], .bool true]) (by simp [results, Try.results22, go_sem, r0, r1]) rfl ⟨⟨⟨some ⟨g, 0, none⟩, l.length, d1⟩⟩, by rw [HN.out], ⟨by rw [HN.out]; exact OwL.set_other (OwL.set_other s3 (fun hm => by have a := hfv _ hm; have b := hfl _ hm; omega)) (fun hm => by have a := hfv _ hm; have b := hfl _ hm; omega)⟩, fun g hg => by have := hfv g hg; omega, by ((repeat (first | with_reducible exact hB2 | with_reducible refine Below.setCell ?_ ?_ _)); all_goals (simp <;> omega))⟩

set_option maxRecDepth 100000 in
set_option maxHeartbeats 400000 in
theorem Unpin_spec (w : World) (H : HClock) (x : Clock) (wk : Int) (h : RdClock w w.heap.size H x) (hs : x.Pins.length ≤ 1073741824) :
    Calls Try.prog 48 #[.agg #[.int .i64 x.Epoch, .slice H.Pins.a H.Pins.len H.Pins.cap], .int .i64 wk] w fun e w' => ∃ H' : HClock, e = .returned (.tuple #[H'.val (unpinC x wk).1, .bool (unpinC x wk).2]) ∧ OwClock w' H' (unpinC x wk).1 ∧ (∀ g ∈ H'.foot, w.heap.size ≤ g) ∧ Below w.heap.size w w' := by
  obtain ⟨⟨A, n, c⟩⟩ := H
  obtain ⟨ep, l⟩ := x
  have hr : RdL FPin w w.heap.size (.slice A n c) l := h.Pins
  obtain ⟨_, _, hv, q1, q2, qx⟩ := id hr
  simp only [Value.slice.injEq] at hv
  obtain ⟨rfl, rfl, rfl⟩ := hv
  have hlt0 : l.length ≤ 9223372036854775807 := by unfold maxLen at q2; omega
  clear q1 q2 qx h
  simp only at hs
  by_cases k1 : clockOkB ⟨ep, l⟩ = true
  case neg =>
    have k1' : clockOkB ⟨ep, l⟩ = false := (Bool.not_eq_true _).mp k1
    have HN := Hid.mk_ (show unpinC ⟨ep, l⟩ wk = (⟨ep, l⟩, false) from if_neg (fun hh => k1 hh.1))
    clear k1
    show Calls Try.prog 48 #[.agg #[.int .i64 ep, .slice A l.length c], .int .i64 wk] _ _
    go_enter Try.func48, Try.ntmps48
    go_wp2_with fail
    refine (copyClock_spec _ ⟨⟨A, l.length, c⟩⟩ ⟨ep, l⟩ ⟨rd_up hr (by repeat (first | exact Below.refl _ _ | refine Below.alloc ?_ (by simp <;> omega) _ | refine below_grow_of ?_ (by simp <;> omega) _ _ | refine Below.drew ?_))⟩ hs).mono ?_
    rintro e w1 ⟨⟨⟨A1, n1, d1⟩⟩, rfl, ho1, hf1, hb1⟩
    have hov1 : OwL FPin 66 w1 (.slice A1 n1 d1) l := ho1.Pins
    have hfv : ∀ g ∈ foot1 (.slice A1 n1 d1), w.heap.size + 1 < g := by intro g hg; have := hf1 g hg; simp at this; omega
    have hfl : ∀ g ∈ foot1 (.slice A1 n1 d1), g < w1.heap.size := foot_lt hov1
    have p0 : w1.cell? ⟨w.heap.size, 0, none⟩ = some (.int .i64 ep) := cell_up hb1 (by simp <;> omega) (by simp [go_sem])
    have p1 : w1.cell? ⟨w.heap.size, 1, none⟩ = some (.slice A l.length c) := cell_up hb1 (by simp <;> omega) (by simp [go_sem])
    have r0 : w1.cell? ⟨w.heap.size + 1, 0, none⟩ = some (.int .i64 0) := cell_up hb1 (by simp <;> omega) (by simp [go_sem])
    have r1 : w1.cell? ⟨w.heap.size + 1, 1, none⟩ = some (.slice none 0 0) := cell_up hb1 (by simp <;> omega) (by simp [go_sem])
    have rf0 : w1.frozen? ⟨w.heap.size + 1, 0, none⟩ = false := frozen_up hb1 (by simp <;> omega) (by simp [go_sem])
    have rf1 : w1.frozen? ⟨w.heap.size + 1, 1, none⟩ = false := frozen_up hb1 (by simp <;> omega) (by simp [go_sem])
    have hz1 : w.heap.size + 1 < w1.heap.size := by have := hb1.size; simp at this; omega
    have hz0 : w.heap.size < w1.heap.size := by omega
    have ne0 : ¬ w1.heap.size = w.heap.size := by omega
    have ne1 : ¬ w1.heap.size = w.heap.size + 1 := by omega
    have ne2 : ¬ w.heap.size = w1.heap.size := by omega
    have ne3 : ¬ w.heap.size + 1 = w1.heap.size := by omega
    have hB1 : Below w.heap.size w w1 := Below.trans (by repeat (first | exact Below.refl _ _ | refine Below.alloc ?_ (by simp <;> omega) _ | refine below_grow_of ?_ (by simp <;> omega) _ _ | refine Below.drew ?_)) (hb1.mono (by simp; omega))
    clear ho1 hf1 hb1
    go_wp2_with fail
    refine (ClockOk_spec _ ⟨⟨A, l.length, c⟩⟩ ⟨ep, l⟩ ⟨rd_up hr (hB1.alloc hB1.size _)⟩).mono ?_
    rw [k1']
    rintro e w2 ⟨rfl, hb2⟩
    have q0 : w2.cell? ⟨w1.heap.size, 0, none⟩ = some (.int .i64 ep) := cell_up hb2 (by simp <;> omega) (by simp [go_sem])
    have q1 : w2.cell? ⟨w1.heap.size, 1, none⟩ = some (.slice A1 n1 d1) := cell_up hb2 (by simp <;> omega) (by simp [go_sem])
    have qf0 : w2.frozen? ⟨w1.heap.size, 0, none⟩ = false := frozen_up hb2 (by simp <;> omega) (by simp [go_sem])
    replace p0 := up2 hb2 (by omega) p0
    replace p1 := up2 hb2 (by omega) p1
    replace r0 := up2 hb2 (by omega) r0
    replace r1 := up2 hb2 (by omega) r1
    replace rf0 := fup2 hb2 (by omega) rf0
    replace rf1 := fup2 hb2 (by omega) rf1
    have hz2 : w1.heap.size < w2.heap.size := by have := hb2.size; simp at this; omega
    have hov : OwL FPin 66 w2 (.slice A1 n1 d1) l := (hov1.alloc_ _).keep (fun g hg => hb2.block g (by have := hfl g (mem_foot1.2 hg); simp; omega))
    have hB2 : Below w.heap.size w w2 := (hB1.alloc hB1.size _).trans (hb2.mono (by simp; omega))
    clear hov1 hb2 hB1
    go_wp2_with fail
    refine bodyPost_ret (v := .tuple #[.agg #[.int .i64 ep, .slice A1 n1 d1], .bool false]) (by simp [results, Try.results48, go_sem, r0, r1]) rfl ⟨⟨⟨A1, n1, d1⟩⟩, by rw [HN.out], ⟨by rw [HN.out]; exact OwL.set_other (OwL.set_other hov (fun hm => by have a := hfv _ hm; have b := hfl _ hm; omega)) (fun hm => by have a := hfv _ hm; have b := hfl _ hm; omega)⟩, fun g hg => by have := hfv g hg; omega, by ((repeat (first | with_reducible exact hB2 | with_reducible refine Below.setCell ?_ ?_ _)); all_goals (simp <;> omega))⟩
  by_cases k2 : inB 0 2 wk = true
  case neg =>
    have k2' : inB 0 2 wk = false := (Bool.not_eq_true _).mp k2
    have HN := Hid.mk_ (show unpinC ⟨ep, l⟩ wk = (⟨ep, l⟩, false) from if_neg (fun hh => k2 hh.2.1))
    clear k2
    show Calls Try.prog 48 #[.agg #[.int .i64 ep, .slice A l.length c], .int .i64 wk] _ _
    go_enter Try.func48, Try.ntmps48
    go_wp2_with fail
    refine (copyClock_spec _ ⟨⟨A, l.length, c⟩⟩ ⟨ep, l⟩ ⟨rd_up hr (by repeat (first | exact Below.refl _ _ | refine Below.alloc ?_ (by simp <;> omega) _ | refine below_grow_of ?_ (by simp <;> omega) _ _ | refine Below.drew ?_))⟩ hs).mono ?_
    rintro e w1 ⟨⟨⟨A1, n1, d1⟩⟩, rfl, ho1, hf1, hb1⟩
    have hov1 : OwL FPin 66 w1 (.slice A1 n1 d1) l := ho1.Pins
    have hfv : ∀ g ∈ foot1 (.slice A1 n1 d1), w.heap.size + 1 < g := by intro g hg; have := hf1 g hg; simp at this; omega
    have hfl : ∀ g ∈ foot1 (.slice A1 n1 d1), g < w1.heap.size := foot_lt hov1
    have p0 : w1.cell? ⟨w.heap.size, 0, none⟩ = some (.int .i64 ep) := cell_up hb1 (by simp <;> omega) (by simp [go_sem])
    have p1 : w1.cell? ⟨w.heap.size, 1, none⟩ = some (.slice A l.length c) := cell_up hb1 (by simp <;> omega) (by simp [go_sem])
    have r0 : w1.cell? ⟨w.heap.size + 1, 0, none⟩ = some (.int .i64 0) := cell_up hb1 (by simp <;> omega) (by simp [go_sem])
    have r1 : w1.cell? ⟨w.heap.size + 1, 1, none⟩ = some (.slice none 0 0) := cell_up hb1 (by simp <;> omega) (by simp [go_sem])
    have rf0 : w1.frozen? ⟨w.heap.size + 1, 0, none⟩ = false := frozen_up hb1 (by simp <;> omega) (by simp [go_sem])
    have rf1 : w1.frozen? ⟨w.heap.size + 1, 1, none⟩ = false := frozen_up hb1 (by simp <;> omega) (by simp [go_sem])
    have hz1 : w.heap.size + 1 < w1.heap.size := by have := hb1.size; simp at this; omega
    have hz0 : w.heap.size < w1.heap.size := by omega
    have ne0 : ¬ w1.heap.size = w.heap.size := by omega
    have ne1 : ¬ w1.heap.size = w.heap.size + 1 := by omega
    have ne2 : ¬ w.heap.size = w1.heap.size := by omega
    have ne3 : ¬ w.heap.size + 1 = w1.heap.size := by omega
    have hB1 : Below w.heap.size w w1 := Below.trans (by repeat (first | exact Below.refl _ _ | refine Below.alloc ?_ (by simp <;> omega) _ | refine below_grow_of ?_ (by simp <;> omega) _ _ | refine Below.drew ?_)) (hb1.mono (by simp; omega))
    clear ho1 hf1 hb1
    go_wp2_with fail
    refine (ClockOk_spec _ ⟨⟨A, l.length, c⟩⟩ ⟨ep, l⟩ ⟨rd_up hr (hB1.alloc hB1.size _)⟩).mono ?_
    rw [k1]
    rintro e w2 ⟨rfl, hb2⟩
    have q0 : w2.cell? ⟨w1.heap.size, 0, none⟩ = some (.int .i64 ep) := cell_up hb2 (by simp <;> omega) (by simp [go_sem])
    have q1 : w2.cell? ⟨w1.heap.size, 1, none⟩ = some (.slice A1 n1 d1) := cell_up hb2 (by simp <;> omega) (by simp [go_sem])
    have qf0 : w2.frozen? ⟨w1.heap.size, 0, none⟩ = false := frozen_up hb2 (by simp <;> omega) (by simp [go_sem])
    replace p0 := up2 hb2 (by omega) p0
    replace p1 := up2 hb2 (by omega) p1
    replace r0 := up2 hb2 (by omega) r0
    replace r1 := up2 hb2 (by omega) r1
    replace rf0 := fup2 hb2 (by omega) rf0
    replace rf1 := fup2 hb2 (by omega) rf1
    have hz2 : w1.heap.size < w2.heap.size := by have := hb2.size; simp at this; omega
    have hov : OwL FPin 66 w2 (.slice A1 n1 d1) l := (hov1.alloc_ _).keep (fun g hg => hb2.block g (by have := hfl g (mem_foot1.2 hg); simp; omega))
    have hB2 : Below w.heap.size w w2 := (hB1.alloc hB1.size _).trans (hb2.mono (by simp; omega))
    clear hov1 hb2 hB1
    go_wp2_with (go_at_call 36; refine (l1In_ct _ _ _ _).mono ?_; rintro e w3 ⟨rfl, rfl⟩)
    refine bodyPost_ret (v := .tuple #[.agg #[.int .i64 ep, .slice A1 n1 d1], .bool false]) (by simp [results, Try.results48, go_sem, r0, r1]) rfl ⟨⟨⟨A1, n1, d1⟩⟩, by rw [HN.out], ⟨by rw [HN.out]; exact OwL.set_other (OwL.set_other hov (fun hm => by have a := hfv _ hm; have b := hfl _ hm; omega)) (fun hm => by have a := hfv _ hm; have b := hfl _ hm; omega)⟩, fun g hg => by have := hfv g hg; omega, by ((repeat (first | with_reducible exact hB2 | with_reducible refine Below.setCell ?_ ?_ _)); all_goals (simp <;> omega))⟩
  obtain ⟨k0, rfl⟩ := Int.eq_ofNat_of_zero_le (inB_iff.1 k2).1
  have H3 : Hid (l.length = 3) := clockOk_len k1
  have hk0 : k0 < l.length := by rw [H3.out]; have := (inB_iff.1 k2).2; omega
  obtain ⟨p, hp⟩ : ∃ p, l[k0]? = some p := ⟨_, List.getElem?_eq_getElem hk0⟩
  have HG : Hid (l.getD (k0 : Int).toNat pin0 = p) := Hid.mk_ (by rw [Int.toNat_natCast, List.getD, hp]; rfl)
  have HX := Hid.mk_ hp
  clear hp
  obtain ⟨gi, oi, ci, hvi, hgi, _, _, hci⟩ := hr.at_ HX.out
  simp only [Value.slice.injEq] at hvi
  obtain ⟨rfl, _, rfl⟩ := hvi
  have y0 : w.cell? ⟨gi, oi + k0 * 4, none⟩ = some (.bool p.On) := hci 0 _ rfl
  have y1 : w.cell? ⟨gi, oi + k0 * 4 + 1, none⟩ = some (.int .i64 p.Epoch) := hci 1 _ rfl
  have y2 : w.cell? ⟨gi, oi + k0 * 4 + 2, none⟩ = some (.bool p.Marked) := hci 2 _ rfl
  have y3 : w.cell? ⟨gi, oi + k0 * 4 + 3, none⟩ = some (.int .i64 p.Seen) := hci 3 _ rfl
  clear hci
  by_cases k3 : p.On = true
  case neg =>
    have k3' : p.On = false := (Bool.not_eq_true _).mp k3
    have HN := Hid.mk_ (show unpinC ⟨ep, l⟩ (k0 : Int) = (⟨ep, l⟩, false) from if_neg (fun hh => by have a := hh.2.2; rw [HG.out] at a; exact k3 a))
    clear k3
    show Calls Try.prog 48 #[.agg #[.int .i64 ep, .slice (some ⟨gi, oi, none⟩) l.length c], .int .i64 (k0 : Int)] _ _
    go_enter Try.func48, Try.ntmps48
    go_wp2_with fail
    refine (copyClock_spec _ ⟨⟨some ⟨gi, oi, none⟩, l.length, c⟩⟩ ⟨ep, l⟩ ⟨rd_up hr (by repeat (first | exact Below.refl _ _ | refine Below.alloc ?_ (by simp <;> omega) _ | refine below_grow_of ?_ (by simp <;> omega) _ _ | refine Below.drew ?_))⟩ hs).mono ?_
    rintro e w1 ⟨⟨⟨A1, n1, d1⟩⟩, rfl, ho1, hf1, hb1⟩
    have hov1 : OwL FPin 66 w1 (.slice A1 n1 d1) l := ho1.Pins
    have hfv : ∀ g ∈ foot1 (.slice A1 n1 d1), w.heap.size + 1 < g := by intro g hg; have := hf1 g hg; simp at this; omega
    have hfl : ∀ g ∈ foot1 (.slice A1 n1 d1), g < w1.heap.size := foot_lt hov1
    have p0 : w1.cell? ⟨w.heap.size, 0, none⟩ = some (.int .i64 ep) := cell_up hb1 (by simp <;> omega) (by simp [go_sem])
    have p1 : w1.cell? ⟨w.heap.size, 1, none⟩ = some (.slice (some ⟨gi, oi, none⟩) l.length c) := cell_up hb1 (by simp <;> omega) (by simp [go_sem])
    have r0 : w1.cell? ⟨w.heap.size + 1, 0, none⟩ = some (.int .i64 0) := cell_up hb1 (by simp <;> omega) (by simp [go_sem])
    have r1 : w1.cell? ⟨w.heap.size + 1, 1, none⟩ = some (.slice none 0 0) := cell_up hb1 (by simp <;> omega) (by simp [go_sem])
    have rf0 : w1.frozen? ⟨w.heap.size + 1, 0, none⟩ = false := frozen_up hb1 (by simp <;> omega) (by simp [go_sem])
    have rf1 : w1.frozen? ⟨w.heap.size + 1, 1, none⟩ = false := frozen_up hb1 (by simp <;> omega) (by simp [go_sem])
    have hz1 : w.heap.size + 1 < w1.heap.size := by have := hb1.size; simp at this; omega
    have hz0 : w.heap.size < w1.heap.size := by omega
    have ne0 : ¬ w1.heap.size = w.heap.size := by omega
    have ne1 : ¬ w1.heap.size = w.heap.size + 1 := by omega
    have ne2 : ¬ w.heap.size = w1.heap.size := by omega
    have ne3 : ¬ w.heap.size + 1 = w1.heap.size := by omega
    have hB1 : Below w.heap.size w w1 := Below.trans (by repeat (first | exact Below.refl _ _ | refine Below.alloc ?_ (by simp <;> omega) _ | refine below_grow_of ?_ (by simp <;> omega) _ _ | refine Below.drew ?_)) (hb1.mono (by simp; omega))
    clear ho1 hf1 hb1
    go_wp2_with fail
    refine (ClockOk_spec _ ⟨⟨some ⟨gi, oi, none⟩, l.length, c⟩⟩ ⟨ep, l⟩ ⟨rd_up hr (hB1.alloc hB1.size _)⟩).mono ?_
    rw [k1]
    rintro e w2 ⟨rfl, hb2⟩
    have q0 : w2.cell? ⟨w1.heap.size, 0, none⟩ = some (.int .i64 ep) := cell_up hb2 (by simp <;> omega) (by simp [go_sem])
    have q1 : w2.cell? ⟨w1.heap.size, 1, none⟩ = some (.slice A1 n1 d1) := cell_up hb2 (by simp <;> omega) (by simp [go_sem])
    have qf0 : w2.frozen? ⟨w1.heap.size, 0, none⟩ = false := frozen_up hb2 (by simp <;> omega) (by simp [go_sem])
    replace p0 := up2 hb2 (by omega) p0
    replace p1 := up2 hb2 (by omega) p1
    replace r0 := up2 hb2 (by omega) r0
    replace r1 := up2 hb2 (by omega) r1
    replace rf0 := fup2 hb2 (by omega) rf0
    replace rf1 := fup2 hb2 (by omega) rf1
    have hz2 : w1.heap.size < w2.heap.size := by have := hb2.size; simp at this; omega
    have hov : OwL FPin 66 w2 (.slice A1 n1 d1) l := (hov1.alloc_ _).keep (fun g hg => hb2.block g (by have := hfl g (mem_foot1.2 hg); simp; omega))
    have hB2 : Below w.heap.size w w2 := (hB1.alloc hB1.size _).trans (hb2.mono (by simp; omega))
    clear hov1 hb2 hB1
    replace y0 := cell_up hB2 hgi y0
    replace y1 := cell_up hB2 hgi y1
    replace y2 := cell_up hB2 hgi y2
    replace y3 := cell_up hB2 hgi y3
    go_wp2_with (go_at_call 36; refine (l1In_ct _ _ _ _).mono ?_; rintro e w3 ⟨rfl, rfl⟩)
    refine bodyPost_ret (v := .tuple #[.agg #[.int .i64 ep, .slice A1 n1 d1], .bool false]) (by simp [results, Try.results48, go_sem, r0, r1]) rfl ⟨⟨⟨A1, n1, d1⟩⟩, by rw [HN.out], ⟨by rw [HN.out]; exact OwL.set_other (OwL.set_other hov (fun hm => by have a := hfv _ hm; have b := hfl _ hm; omega)) (fun hm => by have a := hfv _ hm; have b := hfl _ hm; omega)⟩, fun g hg => by have := hfv g hg; omega, by ((repeat (first | with_reducible exact hB2 | with_reducible refine Below.setCell ?_ ?_ _)); all_goals (simp <;> omega))⟩
  have HN := Hid.mk_ (show unpinC ⟨ep, l⟩ (k0 : Int) = (⟨ep, l.set k0 ⟨false, 0, false, 0⟩⟩, true) from if_pos ⟨k1, k2, by rw [HG.out]; exact k3⟩)
  show Calls Try.prog 48 #[.agg #[.int .i64 ep, .slice (some ⟨gi, oi, none⟩) l.length c], .int .i64 (k0 : Int)] _ _
  go_enter Try.func48, Try.ntmps48
  go_wp2_with fail
  refine (copyClock_spec _ ⟨⟨some ⟨gi, oi, none⟩, l.length, c⟩⟩ ⟨ep, l⟩ ⟨rd_up hr (by repeat (first | exact Below.refl _ _ | refine Below.alloc ?_ (by simp <;> omega) _ | refine below_grow_of ?_ (by simp <;> omega) _ _ | refine Below.drew ?_))⟩ hs).mono ?_
  rintro e w1 ⟨⟨⟨A1, n1, d1⟩⟩, rfl, ho1, hf1, hb1⟩
  have hov1 : OwL FPin 66 w1 (.slice A1 n1 d1) l := ho1.Pins
  have hfv : ∀ g ∈ foot1 (.slice A1 n1 d1), w.heap.size + 1 < g := by intro g hg; have := hf1 g hg; simp at this; omega
  have hfl : ∀ g ∈ foot1 (.slice A1 n1 d1), g < w1.heap.size := foot_lt hov1
  have p0 : w1.cell? ⟨w.heap.size, 0, none⟩ = some (.int .i64 ep) := cell_up hb1 (by simp <;> omega) (by simp [go_sem])
  have p1 : w1.cell? ⟨w.heap.size, 1, none⟩ = some (.slice (some ⟨gi, oi, none⟩) l.length c) := cell_up hb1 (by simp <;> omega) (by simp [go_sem])
  have r0 : w1.cell? ⟨w.heap.size + 1, 0, none⟩ = some (.int .i64 0) := cell_up hb1 (by simp <;> omega) (by simp [go_sem])
  have r1 : w1.cell? ⟨w.heap.size + 1, 1, none⟩ = some (.slice none 0 0) := cell_up hb1 (by simp <;> omega) (by simp [go_sem])
  have rf0 : w1.frozen? ⟨w.heap.size + 1, 0, none⟩ = false := frozen_up hb1 (by simp <;> omega) (by simp [go_sem])
  have rf1 : w1.frozen? ⟨w.heap.size + 1, 1, none⟩ = false := frozen_up hb1 (by simp <;> omega) (by simp [go_sem])
  have hz1 : w.heap.size + 1 < w1.heap.size := by have := hb1.size; simp at this; omega
  have hz0 : w.heap.size < w1.heap.size := by omega
  have ne0 : ¬ w1.heap.size = w.heap.size := by omega
  have ne1 : ¬ w1.heap.size = w.heap.size + 1 := by omega
  have ne2 : ¬ w.heap.size = w1.heap.size := by omega
  have ne3 : ¬ w.heap.size + 1 = w1.heap.size := by omega
  have hB1 : Below w.heap.size w w1 := Below.trans (by repeat (first | exact Below.refl _ _ | refine Below.alloc ?_ (by simp <;> omega) _ | refine below_grow_of ?_ (by simp <;> omega) _ _ | refine Below.drew ?_)) (hb1.mono (by simp; omega))
  clear ho1 hf1 hb1
  go_wp2_with fail
  refine (ClockOk_spec _ ⟨⟨some ⟨gi, oi, none⟩, l.length, c⟩⟩ ⟨ep, l⟩ ⟨rd_up hr (hB1.alloc hB1.size _)⟩).mono ?_
  rw [k1]
  rintro e w2 ⟨rfl, hb2⟩
  have q0 : w2.cell? ⟨w1.heap.size, 0, none⟩ = some (.int .i64 ep) := cell_up hb2 (by simp <;> omega) (by simp [go_sem])
  have q1 : w2.cell? ⟨w1.heap.size, 1, none⟩ = some (.slice A1 n1 d1) := cell_up hb2 (by simp <;> omega) (by simp [go_sem])
  have qf0 : w2.frozen? ⟨w1.heap.size, 0, none⟩ = false := frozen_up hb2 (by simp <;> omega) (by simp [go_sem])
  replace p0 := up2 hb2 (by omega) p0
  replace p1 := up2 hb2 (by omega) p1
  replace r0 := up2 hb2 (by omega) r0
  replace r1 := up2 hb2 (by omega) r1
  replace rf0 := fup2 hb2 (by omega) rf0
  replace rf1 := fup2 hb2 (by omega) rf1
  have hz2 : w1.heap.size < w2.heap.size := by have := hb2.size; simp at this; omega
  have hov : OwL FPin 66 w2 (.slice A1 n1 d1) l := (hov1.alloc_ _).keep (fun g hg => hb2.block g (by have := hfl g (mem_foot1.2 hg); simp; omega))
  have hB2 : Below w.heap.size w w2 := (hB1.alloc hB1.size _).trans (hb2.mono (by simp; omega))
  clear hov1 hb2 hB1
  replace y0 := cell_up hB2 hgi y0
  replace y1 := cell_up hB2 hgi y1
  replace y2 := cell_up hB2 hgi y2
  replace y3 := cell_up hB2 hgi y3
  obtain ⟨g, cap, hv, hg⟩ := hov.form_pos (by rw [H3.out]; decide)
  simp only [Value.slice.injEq] at hv
  obtain ⟨rfl, rfl, rfl⟩ := hv
  have hg1 : w.heap.size + 1 < g := hfv g (mem_foot1.2 rfl)
  have hg2 : g < w1.heap.size := hfl g (mem_foot1.2 rfl)
  have ng0 : ¬ g = w.heap.size := by omega
  have ng1 : ¬ g = w.heap.size + 1 := by omega
  have ng2 : ¬ g = w1.heap.size := by omega
  have ng3 : ¬ w.heap.size = g := by omega
  have ng4 : ¬ w.heap.size + 1 = g := by omega
  have ng5 : ¬ w1.heap.size = g := by omega
  have x0 : w2.cell? ⟨g, k0 * 4, none⟩ = some (.bool p.On) := hov.cell_ (j := 0) HX.out (by decide)
  have xf0 := hov.frozen_ (k0 * 4)
  have x1 : w2.cell? ⟨g, k0 * 4 + 1, none⟩ = some (.int .i64 p.Epoch) := hov.cell_ (j := 1) HX.out (by decide)
  have xf1 := hov.frozen_ (k0 * 4 + 1)
  have x2 : w2.cell? ⟨g, k0 * 4 + 2, none⟩ = some (.bool p.Marked) := hov.cell_ (j := 2) HX.out (by decide)
  have xf2 := hov.frozen_ (k0 * 4 + 2)
  have x3 : w2.cell? ⟨g, k0 * 4 + 3, none⟩ = some (.int .i64 p.Seen) := hov.cell_ (j := 3) HX.out (by decide)
  have xf3 := hov.frozen_ (k0 * 4 + 3)
  go_wp2_with (go_at_call 36; refine (l1In_ct _ _ _ _).mono ?_; rintro e w3 ⟨rfl, rfl⟩)
  have s0 := hov.set_ (k := k0) (j := 0) (y := (⟨false, p.Epoch, p.Marked, p.Seen⟩ : Pin)) (u := .bool false) HX.out (by decide) rfl
  have s1 := s0.set_ (k := k0) (j := 1) (y := (⟨false, 0, p.Marked, p.Seen⟩ : Pin)) (u := .int .i64 0) (set_get (⟨false, p.Epoch, p.Marked, p.Seen⟩ : Pin) HX.out) (by decide) rfl
  have s2 := s1.set_ (k := k0) (j := 2) (y := (⟨false, 0, false, p.Seen⟩ : Pin)) (u := .bool false) (set_get (⟨false, 0, p.Marked, p.Seen⟩ : Pin) (set_get (⟨false, p.Epoch, p.Marked, p.Seen⟩ : Pin) HX.out)) (by decide) rfl
  have s3 := s2.set_ (k := k0) (j := 3) (y := (⟨false, 0, false, 0⟩ : Pin)) (u := .int .i64 0) (set_get (⟨false, 0, false, p.Seen⟩ : Pin) (set_get (⟨false, 0, p.Marked, p.Seen⟩ : Pin) (set_get (⟨false, p.Epoch, p.Marked, p.Seen⟩ : Pin) HX.out))) (by decide) rfl
  simp only [List.set_set] at s3
  refine bodyPost_ret (v := .tuple #[.agg #[.int .i64 ep, .slice (some ⟨g, 0, none⟩) l.length d1], .bool true]) (by simp [results, Try.results48, go_sem, r0, r1]) rfl ⟨⟨⟨some ⟨g, 0, none⟩, l.length, d1⟩⟩, by rw [HN.out], ⟨by rw [HN.out]; exact OwL.set_other (OwL.set_other s3 (fun hm => by have a := hfv _ hm; have b := hfl _ hm; omega)) (fun hm => by have a := hfv _ hm; have b := hfl _ hm; omega)⟩, fun g hg => by have := hfv g hg; omega, by ((repeat (first | with_reducible exact hB2 | with_reducible refine Below.setCell ?_ ?_ _)); all_goals (simp <;> omega))⟩
end Go.Proofs.Ytapmieijnbachaa
