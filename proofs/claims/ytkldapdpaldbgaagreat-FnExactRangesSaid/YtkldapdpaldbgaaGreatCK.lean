/-
  Clocks: valid, copied: the contracts.
-/
import Derived.Test.YtkldapdpaldbgaaGreatT
import Derived.Test.YtkldapdpaldbgaaGreatL
import Derived.Deep.QuietTactic
import Derived.BigQuiet
import Derived.Deep.LoopGhost
import Derived.Deep.RegionHeld3
import Derived.Test.YtkldapdpaldbgaaGreatN
import Derived.Test.YtkldapdpaldbgaaGreatA
import Derived.WalkSpells
import Derived.Laws.Cover3
import Derived.Test.YtkldapdpaldbgaaGreatP
import Derived.Test.YtkldapdpaldbgaaGreatVC
namespace Go.Proofs.YtkldapdpaldbgaaGreat.Clk
open Go.RowKit
instance : DecidableEq Pin := fun a b => decidable_of_iff (a.On = b.On ∧ a.Epoch = b.Epoch ∧ a.Marked = b.Marked ∧ a.Seen = b.Seen) (by cases a; cases b; simp)
def pin0 : Pin := ⟨false, 0, false, 0⟩
def pinB (ep : Int) (p : Pin) : Bool := inB 0 ep p.Epoch && inB 0 2 p.Seen && (p.On || decide (p = pin0))
def clockOkB (x : Clock) : Bool := inB 0 100000 x.Epoch && (x.Pins.length == 3) && x.Pins.all (pinB x.Epoch)
theorem clockOk_len {x : Clock} (h : clockOkB x = true) : x.Pins.length = 3 := by
  simp [clockOkB] at h
  exact h.1.2
set_option maxRecDepth 100000 in
theorem eqlRunPin (x y : Pin) (w : World) : (binOp .eql 165 (.agg #[.bool x.On, .int .i64 x.Epoch, .bool x.Marked, .int .i64 x.Seen]) (.agg #[.bool y.On, .int .i64 y.Epoch, .bool y.Marked, .int .i64 y.Seen])).run Tryz.prog w = .ok (.bool (decide (x = y))) w := by
  have hu := Tryz.underlying165
  obtain ⟨x0, x1, x2, x3⟩ := x
  obtain ⟨y0, y1, y2, y3⟩ := y
  by_cases h0 : x0 = y0
  · by_cases h1 : x1 = y1
    · by_cases h2 : x2 = y2
      · by_cases h3 : x3 = y3
        · go_simp
        · go_simp
      · go_simp
    · go_simp
  · go_simp
set_option maxRecDepth 100000 in
theorem neqRunPin (x y : Pin) (w : World) : (binOp .neq 165 (.agg #[.bool x.On, .int .i64 x.Epoch, .bool x.Marked, .int .i64 x.Seen]) (.agg #[.bool y.On, .int .i64 y.Epoch, .bool y.Marked, .int .i64 y.Seen])).run Tryz.prog w = .ok (.bool (! decide (x = y))) w := by
  have hu := Tryz.underlying165
  obtain ⟨x0, x1, x2, x3⟩ := x
  obtain ⟨y0, y1, y2, y3⟩ := y
  by_cases h0 : x0 = y0
  · by_cases h1 : x1 = y1
    · by_cases h2 : x2 = y2
      · by_cases h3 : x3 = y3
        · go_simp
        · go_simp
      · go_simp
    · go_simp
  · go_simp
set_option maxRecDepth 100000 in
set_option maxHeartbeats 1000000 in
theorem ClockOk1_impl (p : Pin) (ep : Int) (b : Nat) (w : World) (h0 : w.cell? ⟨b, 0, none⟩ = some (.int .i64 ep)) (hb : b < w.heap.size) :
    Calls Tryz.prog 167 #[.agg #[.bool p.On, .int .i64 p.Epoch, .bool p.Marked, .int .i64 p.Seen], .pointer (some ⟨b, 0, none⟩)] w fun e w' => e = .returned (.bool (!pinB ep p)) ∧ Below w.heap.size w w' := by
  obtain ⟨on, e1, mk, sn⟩ := p
  have HP := Hid.mk_ (show pinB ep ⟨on, e1, mk, sn⟩ = (inB 0 ep e1 && inB 0 2 sn && (on || decide ((⟨on, e1, mk, sn⟩ : Pin) = pin0))) from rfl)
  by_cases c1 : inB 0 ep e1 = true
  case neg =>
    have c1' : inB 0 ep e1 = false := (Bool.not_eq_true _).mp c1
    clear c1
    go_enter Tryz.func167, Tryz.ntmps167
    go_wp2_with (go_at_call 111; refine (within_ct _ _ _ _).mono ?_; rintro e w1 ⟨rfl, rfl⟩)
    go_ret
    exact ⟨ret_bool (by rw [HP.out, c1']; rfl), by repeat (first | exact Below.refl _ _ | refine Below.alloc ?_ (by simp <;> omega) _ | refine below_grow_of ?_ (by simp <;> omega) _ _ | refine Below.drew ?_)⟩
  by_cases c2 : inB 0 2 sn = true
  case neg =>
    have c2' : inB 0 2 sn = false := (Bool.not_eq_true _).mp c2
    clear c2
    go_enter Tryz.func167, Tryz.ntmps167
    go_wp2_with (go_at_call 111; refine (within_ct _ _ _ _).mono ?_; rintro e w1 ⟨rfl, rfl⟩)
    go_ret
    exact ⟨ret_bool (by rw [HP.out, c2']; simp), by repeat (first | exact Below.refl _ _ | refine Below.alloc ?_ (by simp <;> omega) _ | refine below_grow_of ?_ (by simp <;> omega) _ _ | refine Below.drew ?_)⟩
  cases on with
  | true =>
    go_enter Tryz.func167, Tryz.ntmps167
    go_wp2_with (go_at_call 111; refine (within_ct _ _ _ _).mono ?_; rintro e w1 ⟨rfl, rfl⟩)
    go_ret
    exact ⟨ret_bool (by rw [HP.out, c1, c2]; rfl), by repeat (first | exact Below.refl _ _ | refine Below.alloc ?_ (by simp <;> omega) _ | refine below_grow_of ?_ (by simp <;> omega) _ _ | refine Below.drew ?_)⟩
  | false =>
    have hq := neqRunPin ⟨false, e1, mk, sn⟩ pin0
    generalize decide ((⟨false, e1, mk, sn⟩ : Pin) = pin0) = z at hq HP
    simp only [pin0] at hq
    go_enter Tryz.func167, Tryz.ntmps167
    go_wp2_with (go_at_call 111; refine (within_ct _ _ _ _).mono ?_; rintro e w1 ⟨rfl, rfl⟩)
    go_ret
    exact ⟨ret_bool (by rw [HP.out, c1, c2]; rfl), by repeat (first | exact Below.refl _ _ | refine Below.alloc ?_ (by simp <;> omega) _ | refine below_grow_of ?_ (by simp <;> omega) _ _ | refine Below.drew ?_)⟩
end Go.Proofs.YtkldapdpaldbgaaGreat.Clk
